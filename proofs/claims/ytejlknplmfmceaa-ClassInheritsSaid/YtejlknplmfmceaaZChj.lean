/- What is proved: What package class's own, up, look, called and head hand back. Conditions: what fits a memory; What package class's look hands back. Conditions: what fits a memory; What package class's look hands back; texts among texts; called. Conditions: what fits a memory; What package class's called and head hand back. Conditions: what fits a memory. Conditions: those that stand in the statements. -/
import Derived.Test.YtejlknplmfmceaaZCg
set_option linter.unusedSimpArgs false
set_option linter.unusedVariables false
set_option maxRecDepth 100000
namespace Go.Proofs.Ytejlknplmfmceaa
open Go.RowKit

section
variable {P : Program} {N : Nat} {all : List Oper} {K : Env → St → Prop} {E : VV → Env → St → Prop} {d : Option Tmp} {rest : List Oper} {env : Env} {s : St} {T : TypeId} {cy : Bool} {cs : List VV} {w : Value}
theorem p_enil1 : vbin P N all K E .eql T cy d rest env s (.eptr cs) (.raw w) = (cy = true ∧ vnl P N all K E d rest env s false (nilB (qi P T).k (.eptr cs) (.raw w))) := rfl
theorem p_enil2 : vbin P N all K E .neq T cy d rest env s (.eptr cs) (.raw w) = (cy = true ∧ vnl P N all K E d rest env s true (nilB (qi P T).k (.eptr cs) (.raw w))) := rfl
theorem p_nilE : nilB .ptr (.eptr cs) (.raw (.pointer none)) = some false := rfl
end
theorem SrcAt.fg {u t : St} {p bm : Nat} {x : List Cls} (h : SrcAt t p bm x) (hf : Fg u t) : SrcAt u p bm x := by
  obtain ⟨h1, h2⟩ := h
  have k1 : u p = t p := ((hf p).resolve_left (by rw [h1]; simp)).symm
  have k2 : u bm = t bm := ((hf bm).resolve_left (by rw [h2]; simp)).symm
  exact ⟨k1.trans h1, k2.trans h2⟩
theorem atA16_lk {x : List Cls} (n : List UInt8) : lkA n (atA16 x) = Option.map (fun i : Nat => (i : Int)) (atC x n) := by
  unfold atA16 atC
  rw [lkA_pairs]
  cases h : ixT n (x.map (·.nm)) with
  | none => rfl
  | some j =>
    have := ixT_lt h
    rw [List.getElem?_map] at this
    obtain ⟨c, hc, _⟩ := Option.map_eq_some_iff.1 this
    simp [hc]
theorem ownI_ix {c : Cls} {n : List UInt8} : ixZM n c.mths 0 = match ownI c n with | some k => (k : Int) | none => -1 := by
  unfold ixZM ownI; rw [List.drop_zero]; rfl
theorem ownI_get {c : Cls} {n : List UInt8} {j : Nat} (h : ownI c n = some j) : ∃ m, c.mths[j]? = some m ∧ m.nm = n := by
  have := ixT_lt (show ixT n (c.mths.map (·.nm)) = some j from h)
  rw [List.getElem?_map] at this
  obtain ⟨m, h1, h2⟩ := Option.map_eq_some_iff.1 this
  exact ⟨m, h1, h2⟩
set_option maxHeartbeats 4000000 in
theorem Cown_S (t : St) (p bm k : Nat) (x : List Cls) (c : Cls) (n : List UInt8) (hS : SrcAt t p bm x) (hk : x[k]? = some c) (hl : c.mths.length ≤ 140737488355328) : SRet Try.prog 25 [.ptr p 0, .int .i64 k, .str n] t (ownV c n) t := by
  obtain ⟨h1, h2⟩ := hS
  have hpf : t p ≠ .free := by rw [h1]; simp
  have hlen : (x.map clsC).length = x.length := by simp
  have hsx := clsC_at hk
  have hkl := (List.getElem?_eq_some_iff.1 hk).1
  have w1 := fun s b (hb : s b = .obj 9 [.str n]) => CidxM_S s b n c.mths hb hl
  rw [ownI_ix] at w1
  unfold ownV
  clear hk h2
  cases ho : ownI c n with
  | none =>
    rw [ho] at w1
    simp only at w1 ⊢
    clear ho
    obtain ⟨cn, cp, cm⟩ := c
    simp only at w1
    refine G_enter Try.func25 rfl Try.ntmps25 rfl fun Q hQ hQe => ?_
    (repeat' (first | refine Ctl ?_ | ((with_reducible refine Kof.use hK ?_); clear hK hE K E) | ((with_reducible refine Eof.use hE ?_); (try clear hK hE K E)) | ((with_reducible refine Kof.use hKh ?_); clear hKh Kh) | ((with_reducible refine Kof.use hKb (P_next ?_)); clear hKb Kb) | (with_reducible refine G_plan 5 [] [0, 1, 2, 3, 4, 5, 6] hQe fun K E hK hE => ?_) | ((with_reducible refine W_cond (fun h => ?_) (fun h => ?_)) <;> (try (exfalso; first | assumption | omega))) | ((first | (with_reducible first | refine G_region fun K E hK hE => ?_ | refine call_ret can34 (w1 _ _ (by simp (disch := first | assumption | omega) only [go_sem, seval, *])) ?_ | refine W_if ?_ | refine W_ifS ?_ | refine P_heads fun Kh hKh => ?_ | refine P_fin fun Kh hKh => ?_ | refine P_each fun Kb hKb => ?_ | refine W_and ?_) | ((with_reducible refine W_fresh (fun b hb => ?_)); (repeat (obtain ⟨_, hb⟩ := hb)); (try (obtain ⟨_, _⟩ := nef hb hpf)))) <;> (try simp (disch := first | assumption | omega) only [go_sem, seval, hlen, hsx, clsC, *]))))
    all_goals (first | refine W_ret res25 hQ ?_ | refine W_norm res25 hQ ?_ | refine G_pan hQ ?_)
    all_goals (refine ⟨_, _, Wk.of_eq ?_, ?_, rfl, rfl⟩)
    all_goals first | rfl | (exact z_fg)
  | some j =>
    obtain ⟨m, hm, _⟩ := ownI_get ho
    rw [ho] at w1
    simp only [hm] at w1 ⊢
    have hmm := mthC_at16 hm
    have hm4 : (mthC m).length = 4 := rfl
    have hml : (c.mths.map mthC).length = c.mths.length := by simp
    have hjl := (List.getElem?_eq_some_iff.1 hm).1
    clear ho hm
    obtain ⟨cn, cp, cm⟩ := c
    simp only at w1 hmm hml hjl
    refine G_enter Try.func25 rfl Try.ntmps25 rfl fun Q hQ hQe => ?_
    (repeat' (first | refine Ctl ?_ | ((with_reducible refine Kof.use hK ?_); clear hK hE K E) | ((with_reducible refine Eof.use hE ?_); (try clear hK hE K E)) | ((with_reducible refine Kof.use hKh ?_); clear hKh Kh) | ((with_reducible refine Kof.use hKb (P_next ?_)); clear hKb Kb) | (with_reducible refine G_plan 5 [] [0, 1, 2, 3, 4, 5, 6] hQe fun K E hK hE => ?_) | ((with_reducible refine W_cond (fun h => ?_) (fun h => ?_)) <;> (try (exfalso; first | assumption | omega))) | ((first | (with_reducible first | refine G_region fun K E hK hE => ?_ | refine call_ret can34 (w1 _ _ (by simp (disch := first | assumption | omega) only [go_sem, seval, *])) ?_ | refine W_if ?_ | refine W_ifS ?_ | refine P_heads fun Kh hKh => ?_ | refine P_fin fun Kh hKh => ?_ | refine P_each fun Kb hKb => ?_ | refine W_and ?_) | ((with_reducible refine W_fresh (fun b hb => ?_)); (repeat (obtain ⟨_, hb⟩ := hb)); (try (obtain ⟨_, _⟩ := nef hb hpf)))) <;> (try simp (disch := first | assumption | omega) only [go_sem, seval, hlen, hsx, clsC, hmm, hml, hm4, *]))))
    all_goals (first | refine W_ret res25 hQ ?_ | refine W_norm res25 hQ ?_ | refine G_pan hQ ?_)
    all_goals (refine ⟨_, _, Wk.of_eq ?_, ?_, rfl, rfl⟩)
    all_goals first | rfl | (exact z_fg)
/-- Going up, as long as it is told to. -/
def upRun {A : Type} (x : List Cls) (f : A → Nat → A × Bool) : Nat → A → List UInt8 → A × Bool
  | 0, a, _ => (a, false)
  | k + 1, a, n => if n = [] then (a, true) else match atC x n with
    | none => (a, false)
    | some i => if (f a i).2 = true then upRun x f k (f a i).1 ((x[i]?.map (·.par)).getD []) else ((f a i).1, true)
set_option maxHeartbeats 4000000 in
theorem Cup_S {A : Type} (x : List Cls) (p bm : Nat) (g : FuncId) (caps : List VV) (S : A → St) (f : A → Nat → A × Bool) (canG : Callable Try.prog g) (hS : ∀ a, SrcAt (S a) p bm x)
    (hcl : ∀ a (i : Nat), i < x.length → SRet Try.prog g (.int .i64 i :: caps) (S a) (.bool (f a i).2) (S (f a i).1)) (hx : x.length ≤ 100000) (a0 : A) (n : List UInt8) :
    SRet Try.prog 21 [.ptr p 0, .str n, .fn g caps] (S a0) (.bool (upRun x f (x.length + 1) a0 n).2) (S (upRun x f (x.length + 1) a0 n).1) := by
  have hlen : (x.map clsC).length = x.length := by simp
  have hSa := fun a => (hS a).1
  have hSb := fun a => (hS a).2
  have HCL := Lib.hid hcl
  generalize hR : upRun x f (x.length + 1) a0 n = R
  have HR := Lib.hid hR
  clear hR hS hcl
  have h1 := hSa a0
  have h2 := hSb a0
  have hpf : S a0 p ≠ .free := by rw [h1]; simp
  refine G_enter Try.func21 rfl Try.ntmps21 rfl fun Q hQ hQe => ?_
  (repeat' (first | refine Ctl ?_ | ((with_reducible refine Kof.use hK ?_); clear hK hE K E) | ((with_reducible refine Eof.use hE ?_); (try clear hK hE K E)) | ((with_reducible refine W_cond (fun h => ?_) (fun h => ?_)) <;> (try (exfalso; first | assumption | omega))) | ((first | (with_reducible first | refine G_region fun K E hK hE => ?_ | refine W_if ?_ | refine W_ifS ?_ | refine W_and ?_)) <;> (try simp (disch := first | assumption | omega) only [go_sem, seval, hlen, *]))))
  refine G_loop (fun m env s' => ∃ (i : Nat) (a : A) (nm : List UInt8), i ≤ x.length + 1 ∧ m + i = x.length + 1 ∧ s' = S a ∧ Hid (upRun x f (x.length + 1 - i) a nm = R) ∧ env 0 = .ptr p 0 ∧ env 1 = .str nm ∧ env 2 = .fn g caps ∧ env 15 = .int .i64 ((x.length + 1 : Nat) : Int) ∧ env 16 = .int .i64 i) (x.length + 1) ?_ ?_
  · exact ⟨_, Fg.refl _, 0, a0, n, by omega, by omega, rfl, HR, z_sl, z_sl, z_sl, z_sl, z_sl⟩
  clear HR h1 h2 hpf
  rintro m env s' ⟨i, a, nm, hi, hm, rfl, HU, e0, e1, e2, e15, e16⟩
  have h1 := hSa a
  have h2 := hSb a
  have hpf : S a p ≠ .free := by rw [h1]; simp
  by_cases hlt : i < x.length + 1
  · have hU := HU.out
    rw [show x.length + 1 - i = (x.length + 1 - (i + 1)) + 1 by omega] at hU
    simp only [upRun] at hU
    clear HU
    by_cases hnm : nm = []
    · rw [if_pos hnm] at hU
      subst hnm
      subst hU
      (repeat' (first | refine Ctl ?_ | ((with_reducible refine Kof.use hK ?_); clear hK hE K E) | ((with_reducible refine Eof.use hE ?_); (try clear hK hE K E)) | ((with_reducible refine W_cond (fun h => ?_) (fun h => ?_)) <;> (try (exfalso; first | assumption | omega))) | ((first | (with_reducible first | refine G_region fun K E hK hE => ?_ | refine W_if ?_ | refine W_ifS ?_ | refine W_and ?_)) <;> (try simp (disch := first | assumption | omega) only [go_sem, seval, hlen, *]))))
      all_goals (first | refine W_ret res21 hQ ?_ | refine W_norm res21 hQ ?_ | refine G_pan hQ ?_)
      all_goals exact ⟨_, _, Wk.refl _, Fg.refl _, rfl, rfl⟩
    · rw [if_neg hnm] at hU
      have hlk := atA16_lk (x := x) nm
      have hnf : (nm = []) = False := eq_false hnm
      cases hat : atC x nm with
      | none =>
        rw [hat] at hU hlk
        simp only [Option.map_none] at hU hlk
        subst hU
        (repeat' (first | refine Ctl ?_ | ((with_reducible refine Kof.use hK ?_); clear hK hE K E) | ((with_reducible refine Eof.use hE ?_); (try clear hK hE K E)) | ((with_reducible refine W_cond (fun h => ?_) (fun h => ?_)) <;> (try (exfalso; first | assumption | omega))) | ((first | (with_reducible first | refine G_region fun K E hK hE => ?_ | refine W_if ?_ | refine W_ifS ?_ | refine W_and ?_)) <;> (try simp (disch := first | assumption | omega) only [go_sem, seval, hlen, hlk, Option.getD_none, Option.isSome_none, *]))))
        all_goals (first | refine W_ret res21 hQ ?_ | refine W_norm res21 hQ ?_ | refine G_pan hQ ?_)
        all_goals exact ⟨_, _, Wk.refl _, Fg.refl _, rfl, rfl⟩
      | some k =>
        obtain ⟨c, hc, _⟩ := atC_get hat
        rw [hat] at hU hlk
        simp only [Option.map_some, hc, Option.getD_some] at hU hlk
        have hsx := clsC_at hc
        have hkl := (List.getElem?_eq_some_iff.1 hc).1
        have w1 := HCL.out a k hkl
        clear hat hc
        cases hgo : (f a k).2 with
        | false =>
          rw [hgo] at hU w1
          simp only [Bool.false_eq_true, if_false] at hU
          subst hU
          (repeat' (first | refine Ctl ?_ | ((with_reducible refine Kof.use hK ?_); clear hK hE K E) | ((with_reducible refine Eof.use hE ?_); (try clear hK hE K E)) | ((with_reducible refine W_cond (fun h => ?_) (fun h => ?_)) <;> (try (exfalso; first | assumption | omega))) | ((first | (with_reducible first | refine G_region fun K E hK hE => ?_ | refine call_ret canG (w1) ?_ | refine W_if ?_ | refine W_ifS ?_ | refine W_and ?_)) <;> (try simp (disch := first | assumption | omega) only [go_sem, seval, hlen, hlk, Option.getD_some, Option.isSome_some, *]))))
          all_goals (first | refine W_ret res21 hQ ?_ | refine W_norm res21 hQ ?_ | refine G_pan hQ ?_)
          all_goals exact ⟨_, _, Wk.refl _, Fg.refl _, rfl, rfl⟩
        | true =>
          rw [hgo] at hU w1
          simp only [if_true] at hU
          have HU := Lib.hid hU
          have h3 := hSa (f a k).1
          clear hU
          generalize (f a k).1 = a' at *
          clear hgo
          obtain ⟨cn, cp, cm⟩ := c
          (repeat' (first | refine Ctl ?_ | ((with_reducible refine Kof.use hK ?_); clear hK hE K E) | ((with_reducible refine Eof.use hE ?_); (try clear hK hE K E)) | ((with_reducible refine W_cond (fun h => ?_) (fun h => ?_)) <;> (try (exfalso; first | assumption | omega))) | ((first | (with_reducible first | refine G_region fun K E hK hE => ?_ | refine call_ret canG (w1) ?_ | refine W_if ?_ | refine W_ifS ?_ | refine W_and ?_)) <;> (try simp (disch := first | assumption | omega) only [go_sem, seval, hlen, hsx, clsC, hlk, Option.getD_some, Option.isSome_some, *]))))
          exact ⟨_, Fg.refl _, m - 1, by omega, i + 1, a', cp, by omega, by omega, rfl, HU, z_sl, z_sl, z_sl, z_sl, z_sl⟩
  · have hU := HU.out
    rw [show x.length + 1 - i = 0 by omega] at hU
    simp only [upRun] at hU
    subst hU
    clear HU
    (repeat' (first | refine Ctl ?_ | ((with_reducible refine Kof.use hK ?_); clear hK hE K E) | ((with_reducible refine Eof.use hE ?_); (try clear hK hE K E)) | ((with_reducible refine W_cond (fun h => ?_) (fun h => ?_)) <;> (try (exfalso; first | assumption | omega))) | ((first | (with_reducible first | refine G_region fun K E hK hE => ?_ | refine W_if ?_ | refine W_ifS ?_ | refine W_and ?_)) <;> (try simp (disch := first | assumption | omega) only [go_sem, seval, hlen, *]))))
    all_goals (first | refine W_ret res21 hQ ?_ | refine W_norm res21 hQ ?_ | refine G_pan hQ ?_)
    all_goals exact ⟨_, _, Wk.refl _, Fg.refl _, rfl, rfl⟩
end Go.Proofs.Ytejlknplmfmceaa
set_option maxRecDepth 100000
namespace Go.Proofs.Ytejlknplmfmceaa
open Go.RowKit

attribute [local go_sem] p_enil1 p_enil2 p_nilE
theorem Cr1_S (i : Int) (t : St) : SRet Try.prog 22 [.int .i64 i] t (.bool true) t := by
  refine G_enter Try.func22 rfl Try.ntmps22 rfl fun Q hQ hQe => ?_
  (repeat' (first | refine Ctl ?_ | ((with_reducible refine Kof.use hK ?_); clear hK hE K E) | ((with_reducible refine Eof.use hE ?_); (try clear hK hE K E)) | ((with_reducible refine W_cond (fun h => ?_) (fun h => ?_)) <;> (try (exfalso; first | assumption | omega))) | ((first | (with_reducible first | refine G_region fun K E hK hE => ?_ | refine W_if ?_ | refine W_ifS ?_ | refine W_and ?_)) <;> (try simp (disch := first | assumption | omega) only [go_sem, seval, *]))))
  all_goals (first | refine W_ret res22 hQ ?_ | refine W_norm res22 hQ ?_ | refine G_pan hQ ?_)
  all_goals (refine ⟨_, _, Wk.of_eq ?_, ?_, rfl, rfl⟩)
  all_goals first | rfl | (exact z_fg)
theorem upRun_all {x : List Cls} : ∀ (f : Nat) (n : List UInt8), (upRun x (fun (a : Unit) (_ : Nat) => (a, true)) f () n).2 = (chainN x f n).2
  | 0, _ => rfl
  | f + 1, n => by
    simp only [upRun, chainN]
    by_cases h0 : n = []
    · rw [if_pos h0, if_pos h0]
    · rw [if_neg h0, if_neg h0]
      cases ha : atC x n with
      | none => rfl
      | some k => simp only [if_true]; exact upRun_all f _
def lkN (a : Option (Nat × Mth)) : VV := match a with | some r => .int .i64 (r.1 : Int) | none => .int .i64 0
def lkP (a : Option (Nat × Mth)) : VV := match a with | some r => .eptr (mthC r.2) | none => .raw (.pointer none)
def lkS (B : St) (b8 b9 : Nat) (a : Option (Nat × Mth)) : St := (B.set b8 (.obj 3 [lkN a])).set b9 (.obj 60 [lkP a])
def lkF (x : List Cls) (n : List UInt8) (st : Bool) (a : Option (Nat × Mth)) (i : Nat) : Option (Nat × Mth) × Bool := match hitN x n st i with | some r => (some r, false) | none => (a, a.isNone)
theorem upRun_first {x : List Cls} {n : List UInt8} {st : Bool} : ∀ (f : Nat) (nm : List UInt8), (upRun x (lkF x n st) f none nm).1 = firstN x n st (chainN x f nm).1
  | 0, _ => rfl
  | f + 1, nm => by
    simp only [upRun, chainN]
    by_cases h0 : nm = []
    · rw [if_pos h0, if_pos h0]; rfl
    · rw [if_neg h0, if_neg h0]
      cases ha : atC x nm with
      | none => rfl
      | some k =>
        simp only [firstN]
        unfold lkF
        cases hh : hitN x n st k with
        | some r => simp
        | none => simp only [Option.isNone_none, if_true]; exact upRun_first f _
theorem lkS_fg {B : St} {b8 b9 : Nat} (h8 : B b8 = .free) (h9 : B b9 = .free) (a : Option (Nat × Mth)) : Fg (lkS B b8 b9 a) B := Fg.setA (Fg.of_set _ h8) h9
theorem lkS_get {B : St} {b8 b9 b : Nat} (h8 : B b8 = .free) (h9 : B b9 = .free) (hb : B b ≠ .free) (a : Option (Nat × Mth)) : lkS B b8 b9 a b = B b := by
  unfold lkS
  rw [St.set_other _ _ (nef h9 hb).1, St.set_other _ _ (nef h8 hb).1]
theorem lkS_8 {B : St} {b8 b9 : Nat} (h89 : ¬ b8 = b9) (a : Option (Nat × Mth)) : lkS B b8 b9 a b8 = .obj 3 [lkN a] := by unfold lkS; rw [St.set_other _ _ h89, St.set_same]
theorem lkS_9 {B : St} {b8 b9 : Nat} (a : Option (Nat × Mth)) : lkS B b8 b9 a b9 = .obj 60 [lkP a] := St.set_same _ _ _
theorem lkS_put {B : St} {b8 b9 : Nat} (h89 : ¬ b8 = b9) (a a' : Option (Nat × Mth)) : ((lkS B b8 b9 a).set b8 (.obj 3 [lkN a'])).set b9 (.obj 60 [lkP a']) = lkS B b8 b9 a' := by
  unfold lkS
  rw [set_comm' (x := b9) (y := b8) (fun e => h89 e.symm), St.set_set, St.set_set]
set_option maxHeartbeats 4000000 in
theorem Clk1_S (B : St) (p bm b4 b6 b7 b8 b9 : Nat) (x : List Cls) (n : List UInt8) (st : Bool) (hS : SrcAt B p bm x) (h4 : B b4 = .obj 47 [.ptr p 0]) (h6 : B b6 = .obj 9 [.str n]) (h7 : B b7 = .obj 4 [.bool st])
    (h8 : B b8 = .free) (h9 : B b9 = .free) (h89 : ¬ b8 = b9) (hx : x.length ≤ 100000) (hl : ∀ c, c ∈ x → c.mths.length ≤ 100000) (hst : ∀ i, i < x.length → startN x i ≤ 100000) (a : Option (Nat × Mth)) (i : Nat) (hi : i < x.length) :
    SRet Try.prog 27 [.int .i64 i, .ptr b4 0, .ptr b6 0, .ptr b7 0, .ptr b8 0, .ptr b9 0] (lkS B b8 b9 a) (.bool (lkF x n st a i).2) (lkS B b8 b9 (lkF x n st a i).1) := by
  obtain ⟨c, hc⟩ := uget hi
  have hcl := hl c (List.mem_of_getElem? hc)
  have hst1 := hst i hi
  have hsl := stL_at (x := x) hi
  have hsll := stL_len (x := x) (i := x.length)
  have hpf : B p ≠ .free := by rw [hS.1]; simp
  have hSp := (lkS_get h8 h9 hpf a).trans hS.1
  have hS4 := (lkS_get h8 h9 (b := b4) (by rw [h4]; simp) a).trans h4
  have hS6 := (lkS_get h8 h9 (b := b6) (by rw [h6]; simp) a).trans h6
  have hS7 := (lkS_get h8 h9 (b := b7) (by rw [h7]; simp) a).trans h7
  have hS8 := lkS_8 (B := B) h89 a
  have hS9 := lkS_9 (B := B) (b8 := b8) (b9 := b9) a
  have w1 := Cown_S (lkS B b8 b9 a) p bm i x c n (hS.fg (lkS_fg h8 h9 a)) hc (by omega)
  have hput := lkS_put (B := B) h89 a
  have hne : ¬ b9 = b8 := fun e => h89 e.symm
  have n48 : ¬ b4 = b8 := (nef h8 (by rw [h4]; simp)).1
  have n49 : ¬ b4 = b9 := (nef h9 (by rw [h4]; simp)).1
  have n8p : ¬ p = b8 := (nef h8 hpf).1
  have n9p : ¬ p = b9 := (nef h9 hpf).1
  generalize hF : lkF x n st a i = F
  unfold lkF hitN at hF
  simp only [hc] at hF
  unfold ownV at w1
  generalize hSe : lkS B b8 b9 a = S at *
  have HSE := Lib.hid hSe
  have HPUT := Lib.hid hput
  clear hSe hput
  clear hS h4 h6 h7 h8 h9 hl hst hc hpf
  cases ho : ownI c n with
  | none =>
    rw [ho] at w1 hF
    simp only at w1 hF
    subst hF
    cases a <;> simp only [lkN, lkP] at hS8 hS9
    all_goals
      refine G_enter Try.func27 rfl Try.ntmps27 rfl fun Q hQ hQe => ?_
      (repeat' (first | refine Ctl ?_ | ((with_reducible refine Kof.use hK ?_); clear hK hE K E) | ((with_reducible refine Eof.use hE ?_); (try clear hK hE K E)) | ((with_reducible refine Kof.use hKh ?_); clear hKh Kh) | ((with_reducible refine Kof.use hKb (P_next ?_)); clear hKb Kb) | (with_reducible refine G_plan 2 [] [0, 1, 2, 3, 4, 5, 6, 7, 8, 9] hQe fun K E hK hE => ?_) | ((with_reducible refine W_cond (fun h => ?_) (fun h => ?_)) <;> (try (exfalso; first | assumption | omega))) | ((first | (with_reducible first | refine G_region fun K E hK hE => ?_ | refine call_ret can25 (w1) ?_ | refine W_if ?_ | refine W_ifS ?_ | refine P_heads fun Kh hKh => ?_ | refine P_fin fun Kh hKh => ?_ | refine P_each fun Kb hKb => ?_ | refine W_and ?_) | ((with_reducible refine W_gd (fun h => ?_) (fun h => ?_)) <;> (try (exfalso; first | assumption | omega)))) <;> (try simp (disch := first | assumption | omega) only [go_sem, seval, *]))))
    all_goals (first | refine W_ret res27 hQ ?_ | refine W_norm res27 hQ ?_ | refine G_pan hQ ?_)
    all_goals (refine ⟨_, _, Wk.of_eq ?_, ?_, rfl, rfl⟩)
    · rfl
    · simp only; rw [HSE.out]; exact Fg.refl _
    · rfl
    · simp only; rw [HSE.out]; exact Fg.refl _
  | some j =>
    obtain ⟨m, hm, hmn⟩ := ownI_get ho
    have hjl := (List.getElem?_eq_some_iff.1 hm).1
    rw [ho] at w1 hF
    simp only [hm] at w1 hF
    have hp2 := HPUT.out (some (startN x i + j, m))
    obtain ⟨ms, mn, mp, mb⟩ := m
    simp only [mthC, strsV, stsV, lkN, lkP] at w1 hp2
    simp only at hF
    have HP2 := Lib.hid hp2
    clear hm ho hmn hp2
    cases ms <;> cases st
    all_goals
      first
        | rw [if_pos rfl] at hF
        | rw [if_neg (by decide)] at hF
      subst hF
      cases a <;> simp only [lkN, lkP] at hS8 hS9
    all_goals
      refine G_enter Try.func27 rfl Try.ntmps27 rfl fun Q hQ hQe => ?_
      (repeat' (first | refine Ctl ?_ | ((with_reducible refine Kof.use hK ?_); clear hK hE K E) | ((with_reducible refine Eof.use hE ?_); (try clear hK hE K E)) | ((with_reducible refine Kof.use hKh ?_); clear hKh Kh) | ((with_reducible refine Kof.use hKb (P_next ?_)); clear hKb Kb) | (with_reducible refine G_plan 2 [] [0, 1, 2, 3, 4, 5, 6, 7, 8, 9] hQe fun K E hK hE => ?_) | ((with_reducible refine W_cond (fun h => ?_) (fun h => ?_)) <;> (try (exfalso; first | assumption | omega))) | ((first | (with_reducible first | refine G_region fun K E hK hE => ?_ | refine call_ret can25 (w1) ?_ | refine W_if ?_ | refine W_ifS ?_ | refine P_heads fun Kh hKh => ?_ | refine P_fin fun Kh hKh => ?_ | refine P_each fun Kb hKb => ?_ | refine W_and ?_) | ((with_reducible refine W_gd (fun h => ?_) (fun h => ?_)) <;> (try (exfalso; first | assumption | omega)))) <;> (try simp (disch := first | assumption | omega) only [go_sem, seval, hsl, hsll, *]))))
    all_goals (first | refine W_ret res27 hQ ?_ | refine W_norm res27 hQ ?_ | refine G_pan hQ ?_)
    all_goals (refine ⟨_, _, Wk.of_eq ?_, ?_, rfl, rfl⟩)
    all_goals first
      | rfl
      | (simp only; rw [HSE.out]; exact Fg.refl _)
      | (rw [HP2.out]; exact Fg.refl _)
      | (exfalso; revert h; decide)
      | trace_state
end Go.Proofs.Ytejlknplmfmceaa
set_option maxRecDepth 100000
namespace Go.Proofs.Ytejlknplmfmceaa
open Go.RowKit

theorem one_nil : VV.one (.raw (.pointer none)) = true := by first | rfl | decide
attribute [local go_sem] p_enil1 p_enil2 p_nilE one_nil
theorem Clkup_S (p bm : Nat) (x : List Cls) (cls n : List UInt8) (st : Bool) (hx : x.length ≤ 100000) (hl : ∀ c, c ∈ x → c.mths.length ≤ 100000) (hst : ∀ i, i < x.length → startN x i ≤ 100000)
    (B : St) (b4 b6 b7 b8 b9 : Nat) (hS1 : B p = .obj 70 [.lst (x.map clsC) .no, .mp bm, .lst (stL x x.length) .no]) (hS2 : B bm = .map (mpV encI (atA16 x))) (h4 : B b4 = .obj 47 [.ptr p 0]) (h6 : B b6 = .obj 9 [.str n]) (h7 : B b7 = .obj 4 [.bool st])
    (h8 : B b8 = .free) (h9 : B b9 = .free) (h89 : ¬ b8 = b9) :
    SRet Try.prog 21 [.ptr p 0, .str cls, .fn 27 [.ptr b4 0, .ptr b6 0, .ptr b7 0, .ptr b8 0, .ptr b9 0]]
      ((B.set b8 (.obj 3 [.int .i64 0])).set b9 (.obj 60 [.raw (.pointer none)]))
      (.bool (upRun x (lkF x n st) (x.length + 1) none cls).2) ((B.set b8 (.obj 3 [lkN (lookN x cls n st)])).set b9 (.obj 60 [lkP (lookN x cls n st)])) := by
  have hS : SrcAt B p bm x := ⟨hS1, hS2⟩
  have h := Cup_S x p bm 27 [.ptr b4 0, .ptr b6 0, .ptr b7 0, .ptr b8 0, .ptr b9 0] (lkS B b8 b9) (lkF x n st) can27 (fun a => hS.fg (lkS_fg h8 h9 a))
    (fun a i hi => Clk1_S B p bm b4 b6 b7 b8 b9 x n st hS h4 h6 h7 h8 h9 h89 hx hl hst a i hi) hx none cls
  rw [upRun_first] at h
  exact h
set_option maxHeartbeats 4000000 in
theorem Clook_S (t : St) (p bm : Nat) (x : List Cls) (cls n : List UInt8) (st : Bool) (hS : SrcAt t p bm x) (hx : x.length ≤ 100000) (hl : ∀ c, c ∈ x → c.mths.length ≤ 100000) (hst : ∀ i, i < x.length → startN x i ≤ 100000) :
    SRet Try.prog 19 [.ptr p 0, .str cls, .str n, .bool st] t (.tup [lkN (lookN x cls n st), lkP (lookN x cls n st)]) t := by
  have w1 := Clkup_S p bm x cls n st hx hl hst
  obtain ⟨h1, h2⟩ := hS
  have hpf : t p ≠ .free := by rw [h1]; simp
  have hbf : t bm ≠ .free := by rw [h2]; simp
  generalize (upRun x (lkF x n st) (x.length + 1) none cls).2 = ub at w1
  clear hl hst
  cases hr : lookN x cls n st with
  | none =>
    rw [hr] at w1
    simp only [lkN, lkP] at w1 ⊢
    clear hr
    refine G_enter Try.func19 rfl Try.ntmps19 rfl fun Q hQ hQe => ?_
    (repeat' (first | refine Ctl ?_ | ((with_reducible refine Kof.use hK ?_); clear hK hE K E) | ((with_reducible refine Eof.use hE ?_); (try clear hK hE K E)) | ((with_reducible refine Kof.use hKh ?_); clear hKh Kh) | ((with_reducible refine Kof.use hKb (P_next ?_)); clear hKb Kb) | (with_reducible refine G_plan 2 [([0, 1], 2, [[1]]), ([], 3, [[], []])] [] hQe fun K E hK hE => ?_) | ((with_reducible refine W_cond (fun h => ?_) (fun h => ?_)) <;> (try (exfalso; first | assumption | omega))) | ((first | (with_reducible first | refine G_region fun K E hK hE => ?_ | refine call_ret can21 (w1 _ _ _ _ _ _ z_sl z_sl z_sl z_sl z_sl z_sl z_sl (by assumption)) ?_ | refine W_if ?_ | refine W_ifS ?_ | refine P_heads fun Kh hKh => ?_ | refine P_fin fun Kh hKh => ?_ | refine P_each fun Kb hKb => ?_ | refine W_and ?_) | ((with_reducible refine W_fresh (fun b hb => ?_)); (repeat (obtain ⟨_, hb⟩ := hb)); (try (obtain ⟨_, _⟩ := nef hb hpf; obtain ⟨_, _⟩ := nef hb hbf)))) <;> (try simp (disch := first | assumption | omega) only [go_sem, seval, *]))))
    all_goals (first | refine W_ret res19 hQ ?_ | refine W_norm res19 hQ ?_ | refine G_pan hQ ?_)
    all_goals (refine ⟨_, _, Wk.of_eq ?_, ?_, rfl, rfl⟩)
    all_goals first | rfl | (exact z_fg) | trace_state
  | some r =>
    rw [hr] at w1
    simp only [lkN, lkP] at w1 ⊢
    clear hr
    refine G_enter Try.func19 rfl Try.ntmps19 rfl fun Q hQ hQe => ?_
    (repeat' (first | refine Ctl ?_ | ((with_reducible refine Kof.use hK ?_); clear hK hE K E) | ((with_reducible refine Eof.use hE ?_); (try clear hK hE K E)) | ((with_reducible refine Kof.use hKh ?_); clear hKh Kh) | ((with_reducible refine Kof.use hKb (P_next ?_)); clear hKb Kb) | (with_reducible refine G_plan 2 [([0, 1], 2, [[1]]), ([], 3, [[], []])] [] hQe fun K E hK hE => ?_) | ((with_reducible refine W_cond (fun h => ?_) (fun h => ?_)) <;> (try (exfalso; first | assumption | omega))) | ((first | (with_reducible first | refine G_region fun K E hK hE => ?_ | refine call_ret can21 (w1 _ _ _ _ _ _ z_sl z_sl z_sl z_sl z_sl z_sl z_sl (by assumption)) ?_ | refine W_if ?_ | refine W_ifS ?_ | refine P_heads fun Kh hKh => ?_ | refine P_fin fun Kh hKh => ?_ | refine P_each fun Kb hKb => ?_ | refine W_and ?_) | ((with_reducible refine W_fresh (fun b hb => ?_)); (repeat (obtain ⟨_, hb⟩ := hb)); (try (obtain ⟨_, _⟩ := nef hb hpf; obtain ⟨_, _⟩ := nef hb hbf)))) <;> (try simp (disch := first | assumption | omega) only [go_sem, seval, *]))))
    all_goals (first | refine W_ret res19 hQ ?_ | refine W_norm res19 hQ ?_ | refine G_pan hQ ?_)
    all_goals (refine ⟨_, _, Wk.of_eq ?_, ?_, rfl, rfl⟩)
    all_goals first | rfl | (exact z_fg) | trace_state
theorem ixT_at0 {k : List UInt8} : ∀ {l : List (List UInt8)} {i : Nat}, (∀ y, y ∈ l.take i → ¬ y = k) → l[i]? = some k → ixT k l = some i
  | [], i, _, h => by simp at h
  | x :: l, 0, _, h => by simp at h; subst h; simp [ixT]
  | x :: l, i + 1, ha, h => by
    have h1 : ¬ k = x := fun e => ha x (by simp) e.symm
    simp only [ixT]
    rw [if_neg h1, ixT_at0 (l := l) (i := i) (fun z hz => ha z (by simp [hz])) (by simpa using h)]
    rfl
def ixZ (k : List UInt8) (l : List (List UInt8)) : Int := match ixT k l with | some i => (i : Int) | none => -1
theorem ixZ_in (k : List UInt8) (l : List (List UInt8)) : decide (0 ≤ ixZ k l) = l.any fun a => decide (a = k) := by
  unfold ixZ
  cases h : ixT k l with
  | none =>
    rw [ixT_none] at h
    have : (l.any fun a => decide (a = k)) = false := by
      rw [List.any_eq_false]; intro a ha; simp; intro e; subst e; exact h ha
    rw [this]; rfl
  | some i =>
    have h2 := List.mem_of_getElem? (ixT_lt h)
    have : (l.any fun a => decide (a = k)) = true := List.any_eq_true.2 ⟨k, h2, by simp⟩
    rw [this]
    simp
set_option maxHeartbeats 2000000 in
theorem ixS_S (l : List (List UInt8)) (o : Own) (n : List UInt8) (hn : l.length ≤ 9223372036854775000) (s : St) : SRet Try.prog 29 [.lst (l.map strC) o, .str n] s (.int .i64 (ixZ n l)) s := by
  have hsl : (l.map strC).length = l.length := by simp
  refine G_enter Try.func29 rfl Try.ntmps29 rfl fun Q hQ hQe => ?_
  (repeat' (first | refine Ctl ?_ | ((with_reducible refine Kof.use hK ?_); clear hK hE K E) | ((with_reducible refine Eof.use hE ?_); (try clear hK hE K E)) | ((with_reducible refine W_cond (fun h => ?_) (fun h => ?_)) <;> (try (exfalso; first | assumption | omega))) | ((first | (with_reducible first | refine G_region fun K E hK hE => ?_ | refine W_if ?_ | refine W_ifS ?_ | refine W_and ?_)) <;> (try simp (disch := first | assumption | omega) only [go_sem, seval, hsl, *]))))
  refine L_loop (fun m env s' => ∃ (i : Nat), i ≤ l.length ∧ m + i = l.length ∧ (∀ x, x ∈ l.take i → ¬ x = n) ∧ s' = s ∧ env 0 = .lst (l.map strC) o ∧ env 1 = .str n ∧ env 7 = .int .i64 l.length ∧ env 8 = .int .i64 i) l.length
    ⟨0, by omega, by omega, by simp, rfl, z_sl, z_sl, z_sl, z_sl⟩ ?_
  rintro m env s' ⟨i, hi, hm, hall, rfl, e0, e1, e7, e8⟩
  by_cases hlt : i < l.length
  · obtain ⟨x, hx⟩ : ∃ x, l[i]? = some x := ⟨_, List.getElem?_eq_getElem hlt⟩
    have hsx : (l.map strC)[i]? = some [.str x] := by simp [strC, hx]
    have htake : l.take (i + 1) = l.take i ++ [x] := by rw [List.take_add_one, hx]; rfl
    by_cases hnx : x = n
    · subst hnx
      have hres : ixZ x l = i := by unfold ixZ; rw [ixT_at0 hall hx]
      clear hall htake hx
      (repeat' (first | refine Ctl ?_ | ((with_reducible refine Kof.use hK ?_); clear hK hE K E) | ((with_reducible refine Eof.use hE ?_); (try clear hK hE K E)) | ((with_reducible refine W_cond (fun h => ?_) (fun h => ?_)) <;> (try (exfalso; first | assumption | omega))) | ((first | (with_reducible first | refine G_region fun K E hK hE => ?_ | refine W_if ?_ | refine W_ifS ?_ | refine W_and ?_)) <;> (try simp (disch := first | assumption | omega) only [go_sem, seval, hsl, hsx, *]))))
      all_goals (first | refine W_ret res29 hQ ?_ | refine W_norm res29 hQ ?_ | refine G_pan hQ ?_)
      all_goals (refine ⟨_, _, Wk.of_eq ?_, ?_, rfl, rfl⟩)
      all_goals first | (exact z_fg) | (rw [hres]; done)
    · have hall2 : ∀ y, y ∈ l.take (i + 1) → ¬ y = n := fun y hy => by
        rw [htake] at hy
        rcases List.mem_append.1 hy with hy | hy
        · exact hall y hy
        · rw [List.mem_singleton] at hy; subst hy; exact hnx
      have hnx2 : ¬ n = x := fun e => hnx e.symm
      clear hall htake hx
      (repeat' (first | refine Ctl ?_ | ((with_reducible refine Kof.use hK ?_); clear hK hE K E) | ((with_reducible refine Eof.use hE ?_); (try clear hK hE K E)) | ((with_reducible refine W_cond (fun h => ?_) (fun h => ?_)) <;> (try (exfalso; first | assumption | omega))) | ((first | (with_reducible first | refine G_region fun K E hK hE => ?_ | refine W_if ?_ | refine W_ifS ?_ | refine W_and ?_)) <;> (try simp (disch := first | assumption | omega) only [go_sem, seval, hsl, hsx, *]))))
      all_goals exact ⟨m - 1, by omega, i + 1, by omega, by omega, hall2, rfl, z_sl, z_sl, z_sl, z_sl⟩
  · have hres : ixZ n l = -1 := by
      have : l.take i = l := List.take_of_length_le (by omega)
      rw [this] at hall
      unfold ixZ
      rw [ixT_none.2 fun hm => hall n hm rfl]
    clear hall
    (repeat' (first | refine Ctl ?_ | ((with_reducible refine Kof.use hK ?_); clear hK hE K E) | ((with_reducible refine Eof.use hE ?_); (try clear hK hE K E)) | ((with_reducible refine W_cond (fun h => ?_) (fun h => ?_)) <;> (try (exfalso; first | assumption | omega))) | ((first | (with_reducible first | refine G_region fun K E hK hE => ?_ | refine W_if ?_ | refine W_ifS ?_ | refine W_and ?_)) <;> (try simp (disch := first | assumption | omega) only [go_sem, seval, hsl, *]))))
    all_goals (first | refine W_ret res29 hQ ?_ | refine W_norm res29 hQ ?_ | refine G_pan hQ ?_)
    all_goals (refine ⟨_, _, Wk.of_eq ?_, ?_, rfl, rfl⟩)
    all_goals first | (exact z_fg) | (rw [hres]; done)
theorem contS_S (l : List (List UInt8)) (o : Own) (n : List UInt8) (hn : l.length ≤ 9223372036854775000) (s : St) : SRet Try.prog 32 [.lst (l.map strC) o, .str n] s (.bool (l.any fun a => decide (a = n))) s := by
  have h1 := ixS_S l o n hn
  have h2 := ixZ_in n l
  refine G_enter Try.func32 rfl Try.ntmps32 rfl fun Q hQ hQe => ?_
  (repeat' (first | refine Ctl ?_ | ((with_reducible refine Kof.use hK ?_); clear hK hE K E) | ((with_reducible refine Eof.use hE ?_); (try clear hK hE K E)) | ((with_reducible refine W_cond (fun h => ?_) (fun h => ?_)) <;> (try (exfalso; first | assumption | omega))) | ((first | (with_reducible first | refine G_region fun K E hK hE => ?_ | refine call_ret can29 (h1 _) ?_ | refine W_if ?_ | refine W_ifS ?_ | refine W_and ?_)) <;> (try simp (disch := first | assumption | omega) only [go_sem, seval, *]))))
  all_goals (first | refine W_ret res32 hQ ?_ | refine W_norm res32 hQ ?_ | refine G_pan hQ ?_)
  all_goals (refine ⟨_, _, Wk.of_eq ?_, ?_, rfl, rfl⟩)
  all_goals first | (exact z_fg) | rfl
end Go.Proofs.Ytejlknplmfmceaa
set_option maxRecDepth 100000
namespace Go.Proofs.Ytejlknplmfmceaa
open Go.RowKit

attribute [local go_sem] p_enil1 p_enil2 p_nilE one_nil
def callB (n : List UInt8) (many : Nat) (c : Cls) : Bool := match ownM c n with | none => false | some m => !m.stat && decide (m.pars.length = many)
theorem called_at {x : List Cls} {n : List UInt8} {many i : Nat} {c : Cls} (hc : x[i]? = some c) (h : callB n many c = true) : calledB x n many = true := List.any_eq_true.2 ⟨c, List.mem_of_getElem? hc, h⟩
theorem called_no {x : List Cls} {n : List UInt8} {many : Nat} (h : ∀ c, c ∈ x → callB n many c = false) : calledB x n many = false := by
  unfold calledB
  rw [List.any_eq_false]
  intro c hc
  have h2 := h c hc
  intro h3
  exact absurd (h2.symm.trans h3) (by decide)
theorem ownV_M {c : Cls} {n : List UInt8} : ownV c n = match ownM c n with | none => .tup [.int .i64 0, .raw (.pointer none)] | some m => .tup [.int .i64 ((ownI c n).getD 0 : Nat), .eptr (mthC m)] := by
  unfold ownV ownM
  cases ownI c n with
  | none => rfl
  | some j => simp only [Option.bind_some, Option.getD_some]; cases c.mths[j]? <;> rfl
set_option maxHeartbeats 4000000 in
theorem Ccalled_S (t : St) (p bm : Nat) (x : List Cls) (n : List UInt8) (many : Nat) (hS : SrcAt t p bm x) (hx : x.length ≤ 100000) (hl : ∀ c, c ∈ x → c.mths.length ≤ 100000) :
    SRet Try.prog 33 [.ptr p 0, .str n, .int .i64 many] t (.bool (calledB x n many)) t := by
  have w0 := fun k c hk hcl => Cown_S t p bm k x c n hS hk hcl
  obtain ⟨h1, h2⟩ := hS
  have hpf : t p ≠ .free := by rw [h1]; simp
  have hlen : (x.map clsC).length = x.length := by simp
  generalize hR : calledB x n many = R
  have HR := Lib.hid hR
  clear hR h2
  refine G_enter Try.func33 rfl Try.ntmps33 rfl fun Q hQ hQe => ?_
  (repeat' (first | refine Ctl ?_ | ((with_reducible refine Kof.use hK ?_); clear hK hE K E) | ((with_reducible refine Eof.use hE ?_); (try clear hK hE K E)) | ((with_reducible refine W_cond (fun h => ?_) (fun h => ?_)) <;> (try (exfalso; first | assumption | omega))) | ((first | (with_reducible first | refine G_region fun K E hK hE => ?_ | refine W_if ?_ | refine W_ifS ?_ | refine W_and ?_) | ((with_reducible refine W_gd (fun h => ?_) (fun h => ?_)) <;> (try (exfalso; first | assumption | omega)))) <;> (try simp (disch := first | assumption | omega) only [go_sem, seval, hlen, *]))))
  refine L_loop (fun m env s' => ∃ (i : Nat), i ≤ x.length ∧ m + i = x.length ∧ (∀ c, c ∈ x.take i → callB n many c = false) ∧ s' = t ∧ env 0 = .ptr p 0 ∧ env 1 = .str n ∧ env 2 = .int .i64 many ∧ env 15 = .int .i64 x.length ∧ env 16 = .int .i64 i) x.length
    ⟨0, by omega, by omega, by simp, rfl, z_sl, z_sl, z_sl, z_sl, z_sl⟩ ?_
  rintro m env s' ⟨i, hi, hm, hall, rfl, e0, e1, e2, e15, e16⟩
  by_cases hlt : i < x.length
  · obtain ⟨c, hc⟩ := uget hlt
    have w1 := w0 i c hc (by have := hl c (List.mem_of_getElem? hc); omega)
    have htake : x.take (i + 1) = x.take i ++ [c] := utake hc
    rw [ownV_M] at w1
    have hn2 : callB n many c = false → ∀ y, y ∈ x.take (i + 1) → callB n many y = false := fun hcf y hy => by
      rw [htake] at hy
      rcases List.mem_append.1 hy with hy | hy
      · exact hall y hy
      · rw [List.mem_singleton] at hy; subst hy; exact hcf
    have hy2 : callB n many c = true → R = true := fun hct => by rw [← HR.out]; exact called_at hc hct
    have hcb : callB n many c = match ownM c n with | none => false | some m => !m.stat && decide (m.pars.length = many) := rfl
    generalize callB n many c = cb at hn2 hy2 hcb
    clear hall htake hc w0 hl
    cases ho : ownM c n with
    | none =>
      rw [ho] at w1 hcb
      simp only at w1 hcb
      have HN := hn2 hcb
      clear hn2 hy2 ho hcb
      (repeat' (first | refine Ctl ?_ | ((with_reducible refine Kof.use hK ?_); clear hK hE K E) | ((with_reducible refine Eof.use hE ?_); (try clear hK hE K E)) | ((with_reducible refine W_cond (fun h => ?_) (fun h => ?_)) <;> (try (exfalso; first | assumption | omega))) | ((first | (with_reducible first | refine G_region fun K E hK hE => ?_ | refine call_ret can25 (w1) ?_ | refine W_if ?_ | refine W_ifS ?_ | refine W_and ?_) | ((with_reducible refine W_gd (fun h => ?_) (fun h => ?_)) <;> (try (exfalso; first | assumption | omega)))) <;> (try simp (disch := first | assumption | omega) only [go_sem, seval, hlen, *]))))
      all_goals exact ⟨m - 1, by omega, i + 1, by omega, by omega, HN, rfl, z_sl, z_sl, z_sl, z_sl, z_sl⟩
    | some mt =>
      rw [ho] at w1 hcb
      simp only at w1 hcb
      have hpl : (mt.pars.map strC).length = mt.pars.length := by simp
      have HN := Lib.hid hn2
      have HY := Lib.hid hy2
      have HC := Lib.hid hcb
      clear hn2 hy2 ho hcb
      obtain ⟨ms, mn, mp, mb⟩ := mt
      simp only [mthC, strsV, stsV] at w1 HC hpl
      cases ms
      · (repeat' (first | refine Ctl ?_ | ((with_reducible refine Kof.use hK ?_); clear hK hE K E) | ((with_reducible refine Eof.use hE ?_); (try clear hK hE K E)) | ((with_reducible refine W_cond (fun h => ?_) (fun h => ?_)) <;> (try (exfalso; first | assumption | omega))) | ((first | (with_reducible first | refine G_region fun K E hK hE => ?_ | refine call_ret can25 (w1) ?_ | refine W_if ?_ | refine W_ifS ?_ | refine W_and ?_) | ((with_reducible refine W_gd (fun h => ?_) (fun h => ?_)) <;> (try (exfalso; first | assumption | omega)))) <;> (try simp (disch := first | assumption | omega) only [go_sem, seval, hlen, hpl, *]))))
        · obtain rfl := HY.out (by rw [HC.out]; simp [of_eq_true h])
          all_goals (first | refine W_ret res33 hQ ?_ | refine W_norm res33 hQ ?_ | refine G_pan hQ ?_)
          all_goals (refine ⟨_, _, Wk.of_eq ?_, ?_, rfl, rfl⟩)
          all_goals first | (exact z_fg) | rfl
        · have HN := HN.out (by rw [HC.out]; simp [h])
          exact ⟨m - 1, by omega, i + 1, by omega, by omega, HN, rfl, z_sl, z_sl, z_sl, z_sl, z_sl⟩
      · (repeat' (first | refine Ctl ?_ | ((with_reducible refine Kof.use hK ?_); clear hK hE K E) | ((with_reducible refine Eof.use hE ?_); (try clear hK hE K E)) | ((with_reducible refine W_cond (fun h => ?_) (fun h => ?_)) <;> (try (exfalso; first | assumption | omega))) | ((first | (with_reducible first | refine G_region fun K E hK hE => ?_ | refine call_ret can25 (w1) ?_ | refine W_if ?_ | refine W_ifS ?_ | refine W_and ?_) | ((with_reducible refine W_gd (fun h => ?_) (fun h => ?_)) <;> (try (exfalso; first | assumption | omega)))) <;> (try simp (disch := first | assumption | omega) only [go_sem, seval, hlen, hpl, *]))))
        all_goals
          have HN := HN.out (by rw [HC.out]; simp)
          exact ⟨m - 1, by omega, i + 1, by omega, by omega, HN, rfl, z_sl, z_sl, z_sl, z_sl, z_sl⟩
  · have hR : R = false := by
      rw [← HR.out]
      refine called_no fun c hc => hall c ?_
      rw [List.take_of_length_le (by omega)]; exact hc
    subst hR
    clear hall w0 hl HR
    (repeat' (first | refine Ctl ?_ | ((with_reducible refine Kof.use hK ?_); clear hK hE K E) | ((with_reducible refine Eof.use hE ?_); (try clear hK hE K E)) | ((with_reducible refine W_cond (fun h => ?_) (fun h => ?_)) <;> (try (exfalso; first | assumption | omega))) | ((first | (with_reducible first | refine G_region fun K E hK hE => ?_ | refine W_if ?_ | refine W_ifS ?_ | refine W_and ?_) | ((with_reducible refine W_gd (fun h => ?_) (fun h => ?_)) <;> (try (exfalso; first | assumption | omega)))) <;> (try simp (disch := first | assumption | omega) only [go_sem, seval, hlen, *]))))
    all_goals (first | refine W_ret res33 hQ ?_ | refine W_norm res33 hQ ?_ | refine G_pan hQ ?_)
    all_goals (refine ⟨_, _, Wk.of_eq ?_, ?_, rfl, rfl⟩)
    all_goals first | (exact z_fg) | rfl
end Go.Proofs.Ytejlknplmfmceaa
