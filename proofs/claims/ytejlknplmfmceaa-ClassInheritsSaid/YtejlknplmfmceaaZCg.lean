/- What is proved: What package class's read hands back. Conditions: what fits a memory. Conditions: those that stand in the statements. -/
import Derived.Test.YtejlknplmfmceaaZCbj
import Derived.Test.YtejlknplmfmceaaZOy
import Derived.Test.YtejlknplmfmceaaZPkj
set_option linter.unusedSimpArgs false
set_option linter.unusedVariables false
set_option maxRecDepth 100000
namespace Go.Proofs.Ytejlknplmfmceaa
open Go.RowKit

attribute [local go_sem] disown_fl owned_fl own_fl
def rdE (x : List Cls) : Int := if checkB x = false then 1 else if ¬ (x.map (·.nm)).Nodup then 160 else 0
def atA16 (x : List Cls) : List (List UInt8 × Int) := pairsA (fun c : Cls => c.nm) (fun i _ => (i : Int)) 0 x
def putC (x : List Cls) : List (List UInt8 × Int) := putsA (fun c : Cls => c.nm) (fun i _ => (i : Int)) 0 x []
def stL (x : List Cls) (i : Nat) : List (List VV) := intsL ((List.range i).map fun k => (startN x k : Int))
theorem stL_len {x : List Cls} {i : Nat} : (stL x i).length = i := by simp [stL, intsL]
theorem stL_succ {x : List Cls} {i : Nat} : stL x (i + 1) = stL x i ++ [[.int .i64 (startN x i : Int)]] := by
  unfold stL intsL; rw [List.range_succ, List.map_append, List.map_append]; rfl
theorem stL_at {x : List Cls} {i k : Nat} (h : k < i) : (stL x i)[k]? = some [.int .i64 (startN x k : Int)] := by
  unfold stL intsL; rw [List.getElem?_map, List.getElem?_map, List.getElem?_range h]; rfl
/-- A source that is read, in memory. -/
def SrcAt (t : St) (p bm : Nat) (x : List Cls) : Prop := t p = .obj 70 [.lst (x.map clsC) .no, .mp bm, .lst (stL x x.length) .no] ∧ t bm = .map (mpV encI (atA16 x))
theorem putC_at {x : List Cls} {i : Nat} {c : Cls} (h : x[i]? = some c) : putC (x.take (i + 1)) = ptA c.nm (i : Int) (putC (x.take i)) := by
  unfold putC; rw [utake h, putsA_app, List.length_take, Nat.min_eq_left (Nat.le_of_lt (List.getElem?_eq_some_iff.1 h).1), Nat.zero_add]
theorem putC_len {x : List Cls} : (putC x).length = x.length ↔ (x.map (·.nm)).Nodup := putsA_len x
theorem putC_eq {x : List Cls} (h : (x.map (·.nm)).Nodup) : putC x = atA16 x := by unfold putC atA16; rw [putsA_nodup 0 x [] (by simpa using h), List.nil_append]
set_option maxHeartbeats 8000000 in
theorem Cread_S (x : List Cls) (hx : SrcOk x) (t : St) : SCalls Try.prog 20 [srcV x] t fun w u =>
    (rdE x ≠ 0 → w = .ret (.tup [.raw (.pointer none), .int .i64 (rdE x)]) ∧ u = t) ∧ (rdE x = 0 → ∃ p bm, w = .ret (.tup [.ptr p 0, .int .i64 0]) ∧ SrcAt u p bm x ∧ Fg u t) := by
  have w1 := fun s => Print_S x hx s
  cases hB : checkB x with
  | false =>
    have he : rdE x = 1 := by unfold rdE; rw [if_pos hB]
    have hpv : printV x = .tup [.str [], .int .i64 1] := by simp [printV, printS, hB]
    rw [hpv] at w1
    rw [he]
    simp only [srcV] at w1 ⊢
    clear he hB hpv
    refine G_enter Try.func20 rfl Try.ntmps20 rfl fun Q hQ hQe => ?_
    (repeat' (first | refine Ctl ?_ | ((with_reducible refine Kof.use hK ?_); clear hK hE K E) | ((with_reducible refine Eof.use hE ?_); (try clear hK hE K E)) | ((with_reducible refine Kof.use hKh ?_); clear hKh Kh) | ((with_reducible refine Kof.use hKb (P_next ?_)); clear hKb Kb) | (with_reducible first | refine G_plan 9 [([0, 1, 2, 3, 4, 5, 6], 7, [[]])] [] hQe fun K E hK hE => ?_ | refine G_plan 13 [] [0, 1, 2, 3, 4, 5, 6, 7, 8] hQe fun K E hK hE => ?_) | ((with_reducible refine W_cond (fun h => ?_) (fun h => ?_)) <;> (try (exfalso; first | assumption | omega))) | ((first | (with_reducible first | refine G_region fun K E hK hE => ?_ | refine call_ret can28 (w1 _) ?_ | refine call_ret can28 (Print_S _ (by assumption) _) ?_ | refine W_if ?_ | refine W_ifS ?_ | refine P_heads fun Kh hKh => ?_ | refine P_fin fun Kh hKh => ?_ | refine P_each fun Kb hKb => ?_ | refine W_and ?_) | ((with_reducible refine W_fresh (fun b hb => ?_)); (repeat (obtain ⟨_, hb⟩ := hb))) | ((with_reducible refine W_app (fun o2 ho => ?_)); (repeat (obtain ⟨_, ho⟩ := ho)))) <;> (try simp (disch := first | assumption | omega) only [go_sem, seval, *]))))
    all_goals (first | refine W_ret res20 hQ ?_ | refine W_norm res20 hQ ?_ | refine G_pan hQ ?_)
    refine ⟨_, _, Wk.refl _, (z_fg : Fg _ t), fun _ => ⟨rfl, rfl⟩, fun h => absurd h (by decide)⟩
  | true =>
    obtain ⟨ps, pn, hpv, hpn⟩ : ∃ (ps : List UInt8) (pn : Nat), printV x = .tup [.str ps, .int .i64 pn] ∧ pn ≠ 1 := by
      refine ⟨_, _, rfl, ?_⟩
      unfold printS
      rw [if_pos hB]
      cases lexSigns (prtB x) <;> simp
    rw [hpv] at w1
    have hpI : ((pn : Int) = 1) = False := eq_false (by omega)
    have hrd : rdE x = if ¬ (x.map (·.nm)).Nodup then 160 else 0 := by unfold rdE; rw [if_neg (by rw [hB]; simp)]
    have HRD := Lib.hid hrd
    have HX := Lib.hid hx
    have hxl := hx.1
    have hx32 : x.length ≤ 32 ∧ ∀ c, c ∈ x → c.mths.length ≤ 32 := by
      unfold checkB at hB
      simp only [Bool.and_eq_true, decide_eq_true_eq, List.all_eq_true] at hB
      refine ⟨hB.1.1, fun c hc => ?_⟩
      have := hB.1.2 c hc
      unfold headC at this
      simp only [Bool.and_eq_true, decide_eq_true_eq] at this
      exact this.1.2
    obtain ⟨hx32, hm32⟩ := hx32
    have HM := Lib.hid hm32
    clear hB hpv hpn hrd hx hm32
    have hlen : (x.map clsC).length = x.length := by simp
    simp only [srcV] at w1 ⊢
    refine G_enter Try.func20 rfl Try.ntmps20 rfl fun Q hQ hQe => ?_
    (repeat' (first | refine Ctl ?_ | ((with_reducible refine Kof.use hK ?_); clear hK hE K E) | ((with_reducible refine Eof.use hE ?_); (try clear hK hE K E)) | ((with_reducible refine Kof.use hKh ?_); clear hKh Kh) | ((with_reducible refine Kof.use hKb (P_next ?_)); clear hKb Kb) | (with_reducible first | refine G_plan 9 [([0, 1, 2, 3, 4, 5, 6], 7, [[]])] [] hQe fun K E hK hE => ?_ | refine G_plan 13 [] [0, 1, 2, 3, 4, 5, 6, 7, 8] hQe fun K E hK hE => ?_) | ((with_reducible refine W_cond (fun h => ?_) (fun h => ?_)) <;> (try (exfalso; first | assumption | omega))) | ((first | (with_reducible first | refine G_region fun K E hK hE => ?_ | refine call_ret can28 (w1 _) ?_ | refine call_ret can28 (Print_S _ (by assumption) _) ?_ | refine W_if ?_ | refine W_ifS ?_ | refine P_heads fun Kh hKh => ?_ | refine P_fin fun Kh hKh => ?_ | refine P_each fun Kb hKb => ?_ | refine W_and ?_) | ((with_reducible refine W_fresh (fun b hb => ?_)); (repeat (obtain ⟨_, hb⟩ := hb))) | ((with_reducible refine W_app (fun o2 ho => ?_)); (try simp (disch := assumption) only [disown_set, disown_own, ownok_o, ownok_m, List.length_map, List.length_cons, List.length_nil, Nat.zero_add, hlen] at ho); (repeat (obtain ⟨_, ho⟩ := ho)))) <;> (try simp (disch := first | assumption | omega) only [go_sem, seval, hlen, *]))))
    rename_i bx hbx bm n1 n2 hbm n3 n4 n5 n6
    obtain ⟨bp, hbp⟩ : ∃ z, z = b := ⟨_, rfl⟩
    subst hbp
    have hSx : (t.set bx (.obj 24 [.lst (x.map clsC) .no])) bx = .obj 24 [.lst (x.map clsC) .no] := St.set_same _ _ _
    have hSm : (t.set bx (.obj 24 [.lst (x.map clsC) .no])) bm = .free := by rw [St.set_other _ _ n1]; exact hbm
    have hSp : (t.set bx (.obj 24 [.lst (x.map clsC) .no])) bp = .free := by rw [St.set_other _ _ n5]; exact hb
    have hF : Fg (t.set bx (.obj 24 [.lst (x.map clsC) .no])) t := Fg.of_set _ hbx
    generalize t.set bx (.obj 24 [.lst (x.map clsC) .no]) = S at *
    have HF := Lib.hid hF
    have hSxf : S bx ≠ .free := by rw [hSx]; simp
    clear hF hb hbx hbm
    refine G_loopS (fun m env s' => ∃ (i : Nat) (o : Own), i ≤ x.length ∧ m + i = x.length ∧ OwnOk S o i ∧ NotOwn o bm ∧ NotOwn o bp ∧ Hid (startN x i ≤ 32 * i) ∧
      s' = ((S.own o 3 1 i).set bm (.map (mpV encI (putC (x.take i))))).set bp (.obj 70 [.lst (x.map clsC) .no, .mp bm, .lst (stL x i) o]) ∧
      env 1 = .ptr bx 0 ∧ env 6 = .ptr bp 0 ∧ env 7 = .int .i64 (startN x i : Int) ∧ env 23 = .lst (x.map clsC) .no ∧ env 24 = .int .i64 x.length ∧ env 25 = .int .i64 i) x.length ?_ ?_
    · exact ⟨_, GS.refl _, 0, .full, by omega, by omega, ownok_nil, trivial, trivial, Lib.hid (by simp [startN]), rfl, z_sl, z_sl, z_sl, z_sl, z_sl, z_sl⟩
    · rintro m env s' ⟨i, o, hi, hm, ho, hom, hop, HST, rfl, e1, e6, e7, e23, e24, e25⟩
      have hox := ho.not hSxf
      by_cases hlt : i < x.length
      · obtain ⟨c, hc⟩ := uget hlt
        have hsx := clsC_at hc
        have hsl := start_le hc
        have hcl := HM.out c (List.mem_of_getElem? hc)
        have hst0 := HST.out
        have hln := stL_len (x := x) (i := i)
        have hput := putC_at hc
        have HPUT := Lib.hid hput
        have HSL := Lib.hid hsl
        clear hput hc hsl
        obtain ⟨cn, cp, cm⟩ := c
        simp only at hcl
        have hml : (cm.map mthC).length = cm.length := by simp
        (repeat' (first | refine Ctl ?_ | ((with_reducible refine Kof.use hK ?_); clear hK hE K E) | ((with_reducible refine Eof.use hE ?_); (try clear hK hE K E)) | ((with_reducible refine Kof.use hKh ?_); clear hKh Kh) | ((with_reducible refine Kof.use hKb (P_next ?_)); clear hKb Kb) | (with_reducible first | refine G_plan 9 [([0, 1, 2, 3, 4, 5, 6], 7, [[]])] [] hQe fun K E hK hE => ?_ | refine G_plan 13 [] [0, 1, 2, 3, 4, 5, 6, 7, 8] hQe fun K E hK hE => ?_) | ((with_reducible refine W_cond (fun h => ?_) (fun h => ?_)) <;> (try (exfalso; first | assumption | omega))) | ((first | (with_reducible first | refine G_region fun K E hK hE => ?_ | refine call_ret can28 (Print_S _ (by assumption) _) ?_ | refine W_if ?_ | refine W_ifS ?_ | refine P_heads fun Kh hKh => ?_ | refine P_fin fun Kh hKh => ?_ | refine P_each fun Kb hKb => ?_ | refine W_and ?_) | ((with_reducible refine W_fresh (fun b hb => ?_)); (repeat (obtain ⟨_, hb⟩ := hb)); (try (rw [own_fr] at hb; obtain ⟨_, hb⟩ := hb; obtain ⟨_, _⟩ := nef hb hSxf))) | ((with_reducible refine W_app (fun o2 ho => ?_)); (try simp (disch := assumption) only [disown_set, disown_own, ownok_o, ownok_m, List.length_map, List.length_cons, List.length_nil, Nat.zero_add, hlen, hsx, clsC, hln, hml] at ho); (repeat (obtain ⟨_, ho⟩ := ho)))) <;> (try simp (disch := first | assumption | omega) only [go_sem, seval, hlen, hsx, clsC, hln, hml, *]))))
        have hs1 : startN x (i + 1) = startN x i + cm.length := HSL.out
        refine ⟨_, GS.of_fg (Fg.of_set _ (by rw [St.set_other _ _ (by assumption), St.set_other _ _ (by assumption), own_fr]; exact ⟨by assumption, hb⟩)), m - 1, by omega, i + 1, o2, by omega, by omega, ho, by assumption, by assumption, Lib.hid (by omega), by rw [stL_succ, HPUT.out], z_sl, z_sl, ?_, z_sl, z_sl, z_sl⟩
        rw [hs1]
        ((try simp (disch := first | assumption | omega) only [go_sem, seval, *]) <;> first | rfl | omega)
      · have hie : i = x.length := by omega
        subst hie
        rw [List.take_of_length_le (Nat.le_refl _)]
        have hpl := putC_len (x := x)
        have HPL := Lib.hid hpl
        clear hpl
        have hg := GS.wkobj (s := ((S.own o 3 1 x.length).set bm (.map (mpV encI (putC x)))).set bp (.obj 70 [.lst (x.map clsC) .no, .mp bm, .lst (stL x x.length) o])) (b := bp) (ys := [.lst (x.map clsC) .no, .mp bm, .lst (stL x x.length) .no]) (St.set_same _ _ _) rfl (fun j y hy => by
          match j with
          | 0 => simp at hy; subst hy; exact ⟨_, rfl, Wk.refl _, id⟩
          | 1 => simp at hy; subst hy; exact ⟨_, rfl, Wk.refl _, id⟩
          | 2 => simp at hy; subst hy; exact ⟨_, rfl, Wk.lst _ _, id⟩
          | j + 3 => simp at hy)
        rw [St.set_set] at hg
        refine Kp_gs hg ?_
        clear hg
        (repeat' (first | refine Ctl ?_ | ((with_reducible refine Kof.use hK ?_); clear hK hE K E) | ((with_reducible refine Eof.use hE ?_); (try clear hK hE K E)) | ((with_reducible refine Kof.use hKh ?_); clear hKh Kh) | ((with_reducible refine Kof.use hKb (P_next ?_)); clear hKb Kb) | (with_reducible first | refine G_plan 9 [([0, 1, 2, 3, 4, 5, 6], 7, [[]])] [] hQe fun K E hK hE => ?_ | refine G_plan 13 [] [0, 1, 2, 3, 4, 5, 6, 7, 8] hQe fun K E hK hE => ?_) | ((with_reducible refine W_cond (fun h => ?_) (fun h => ?_)) <;> (try (exfalso; first | assumption | omega))) | ((first | (with_reducible first | refine G_region fun K E hK hE => ?_ | refine call_ret can28 (Print_S _ (by assumption) _) ?_ | refine W_if ?_ | refine W_ifS ?_ | refine P_heads fun Kh hKh => ?_ | refine P_fin fun Kh hKh => ?_ | refine P_each fun Kb hKb => ?_ | refine W_and ?_) | ((with_reducible refine W_fresh (fun b hb => ?_)); (repeat (obtain ⟨_, hb⟩ := hb))) | ((with_reducible refine W_app (fun o2 ho => ?_)); (try simp (disch := assumption) only [disown_set, disown_own, ownok_o, ownok_m, List.length_map, List.length_cons, List.length_nil, Nat.zero_add, hlen] at ho); (repeat (obtain ⟨_, ho⟩ := ho)))) <;> (try simp (disch := first | assumption | omega) only [go_sem, seval, hlen, *]))))
        · have hnd : ¬ (x.map (·.nm)).Nodup := fun hh => h (HPL.out.2 hh)
          have hr := HRD.out
          rw [if_pos hnd] at hr
          (first | refine W_ret res20 hQ ?_ | refine W_norm res20 hQ ?_ | refine G_pan hQ ?_)
          rw [hr]
          exact ⟨_, t, Wk.refl _, Fg.setA (Fg.setA ((Fg.own ho).trans HF.out) (HF.out.free hSm)) (HF.out.free hSp), fun _ => ⟨rfl, rfl⟩, fun h => absurd h (by decide)⟩
        · have hnd : (x.map (·.nm)).Nodup := HPL.out.1 (of_eq_true h)
          have hr := HRD.out
          rw [if_neg (by simpa using hnd)] at hr
          (first | refine W_ret res20 hQ ?_ | refine W_norm res20 hQ ?_ | refine G_pan hQ ?_)
          rw [hr]
          refine ⟨_, _, Wk.refl _, Fg.refl _, fun h => absurd rfl h, fun _ => ⟨bp, bm, rfl, ⟨St.set_same _ _ _, ?_⟩, ?_⟩⟩
          · rw [St.set_other _ _ n4, St.set_same, putC_eq hnd]
          · exact Fg.setA (Fg.setA ((Fg.own ho).trans HF.out) (HF.out.free hSm)) (HF.out.free hSp)
/-- Where a name stands among a class's methods. -/
def ownV (c : Cls) (n : List UInt8) : VV := match ownI c n with
  | none => .tup [.int .i64 0, .raw (.pointer none)]
  | some j => match c.mths[j]? with | none => .tup [.int .i64 0, .raw (.pointer none)] | some m => .tup [.int .i64 j, .eptr (mthC m)]
def ixZM (n : List UInt8) (ms : List Mth) (i : Nat) : Int := match ixT n ((ms.drop i).map (·.nm)) with | some k => ((k + i : Nat) : Int) | none => -1
theorem ixZM_end {n : List UInt8} {ms : List Mth} : ixZM n ms ms.length = -1 := by unfold ixZM; rw [List.drop_length]; rfl
theorem ixZM_at {n : List UInt8} {ms : List Mth} {i : Nat} {c : Mth} (h : ms[i]? = some c) : ixZM n ms i = if n = c.nm then (i : Int) else ixZM n ms (i + 1) := by
  have hlt : i < ms.length := (List.getElem?_eq_some_iff.1 h).1
  have hc : ms[i] = c := by rw [List.getElem?_eq_getElem hlt] at h; injection h
  unfold ixZM
  rw [List.drop_eq_getElem_cons hlt, hc, List.map_cons]
  simp only [ixT]
  by_cases e : n = c.nm
  · rw [if_pos e, if_pos e]; simp
  · rw [if_neg e, if_neg e]
    cases ixT n ((ms.drop (i + 1)).map (·.nm)) with
    | none => rfl
    | some k => simp only [Option.map_some]; congr 1; omega
theorem mthC_at16 {l : List Mth} {i : Nat} {x : Mth} (h : l[i]? = some x) : (l.map mthC)[i]? = some (mthC x) := by rw [List.getElem?_map, h]; rfl
theorem Cown1_S (t : St) (b : Nat) (n : List UInt8) (m : Mth) (hb : t b = .obj 9 [.str n]) : SRet Try.prog 35 [.agg (mthC m), .ptr b 0] t (.bool (decide (m.nm = n))) t := by
  have hbf : t b ≠ .free := by rw [hb]; simp
  obtain ⟨ms, mn, mp, mb⟩ := m
  simp only [mthC]
  refine G_enter Try.func35 rfl Try.ntmps35 rfl fun Q hQ hQe => ?_
  (repeat' (first | refine Ctl ?_ | ((with_reducible refine Kof.use hK ?_); clear hK hE K E) | ((with_reducible refine Eof.use hE ?_); (try clear hK hE K E)) | ((with_reducible refine W_cond (fun h => ?_) (fun h => ?_)) <;> (try (exfalso; first | assumption | omega))) | ((first | (with_reducible first | refine G_region fun K E hK hE => ?_ | refine W_if ?_ | refine W_ifS ?_ | refine W_and ?_) | ((with_reducible refine W_fresh (fun b hb => ?_)); (repeat (obtain ⟨_, hb⟩ := hb)); (try (obtain ⟨_, _⟩ := nef hb hbf)))) <;> (try simp (disch := first | assumption | omega) only [go_sem, seval, strsV, stsV, *]))))
  all_goals (first | refine W_ret res35 hQ ?_ | refine W_norm res35 hQ ?_ | refine G_pan hQ ?_)
  all_goals (refine ⟨_, _, Wk.of_eq ?_, ?_, rfl, rfl⟩)
  all_goals first | rfl | (exact z_fg)
set_option maxHeartbeats 4000000 in
theorem CidxM_S (t : St) (b : Nat) (n : List UInt8) (ms : List Mth) (hb : t b = .obj 9 [.str n]) (hl : ms.length ≤ 140737488355328) : SRet Try.prog 34 [.lst (ms.map mthC) .no, .fn 35 [.ptr b 0]] t (.int .i64 (ixZM n ms 0)) t := by
  have hlen : (ms.map mthC).length = ms.length := by simp
  generalize hR : ixZM n ms 0 = R
  have HR := Lib.hid hR
  clear hR
  refine G_enter Try.func34 rfl Try.ntmps34 rfl fun Q hQ hQe => ?_
  (repeat' (first | refine Ctl ?_ | ((with_reducible refine Kof.use hK ?_); clear hK hE K E) | ((with_reducible refine Eof.use hE ?_); (try clear hK hE K E)) | ((with_reducible refine W_cond (fun h => ?_) (fun h => ?_)) <;> (try (exfalso; first | assumption | omega))) | ((first | (with_reducible first | refine G_region fun K E hK hE => ?_ | refine W_if ?_ | refine W_ifS ?_ | refine W_and ?_)) <;> (try simp (disch := first | assumption | omega) only [go_sem, seval, hlen, *]))))
  refine G_loop (fun m env s' => ∃ i : Nat, i ≤ ms.length ∧ m + i = ms.length ∧ s' = t ∧ Hid (ixZM n ms i = R) ∧ env 0 = .lst (ms.map mthC) .no ∧ env 1 = .fn 35 [.ptr b 0] ∧ env 7 = .int .i64 ms.length ∧ env 8 = .int .i64 i) ms.length ?_ ?_
  · exact ⟨_, Fg.refl _, 0, by omega, by omega, rfl, HR, z_sl, z_sl, z_sl, z_sl⟩
  clear HR
  rintro m env s' ⟨i, hi, hm, rfl, HE, e0, e1, e7, e8⟩
  by_cases hlt : i < ms.length
  · obtain ⟨c, hc⟩ := uget hlt
    have hsx := mthC_at16 hc
    have hE := HE.out
    rw [ixZM_at hc] at hE
    have w1 := Cown1_S s' b n c hb
    obtain ⟨cs, cn, cp, cb⟩ := c
    simp only [mthC, strsV, stsV] at hE w1
    clear hc HE
    by_cases hcn : cn = n
    · subst hcn
      rw [if_pos rfl] at hE
      have HE := Lib.hid hE
      clear hE
      (repeat' (first | refine Ctl ?_ | ((with_reducible refine Kof.use hK ?_); clear hK hE K E) | ((with_reducible refine Eof.use hE ?_); (try clear hK hE K E)) | ((with_reducible refine W_cond (fun h => ?_) (fun h => ?_)) <;> (try (exfalso; first | assumption | omega))) | ((first | (with_reducible first | refine G_region fun K E hK hE => ?_ | refine call_ret can35 (w1) ?_ | refine W_if ?_ | refine W_ifS ?_ | refine W_and ?_)) <;> (try simp (disch := first | assumption | omega) only [go_sem, seval, hlen, hsx, mthC, strsV, stsV, *]))))
      all_goals (first | refine W_ret res34 hQ ?_ | refine W_norm res34 hQ ?_ | refine G_pan hQ ?_)
      all_goals (refine ⟨_, _, Wk.of_eq ?_, ?_, rfl, rfl⟩)
      · rw [show _ = R from HE]
      · (exact z_fg)
    · rw [if_neg (fun h => hcn h.symm)] at hE
      have HE := Lib.hid hE
      have hcf : (cn = n) = False := eq_false hcn
      clear hE
      (repeat' (first | refine Ctl ?_ | ((with_reducible refine Kof.use hK ?_); clear hK hE K E) | ((with_reducible refine Eof.use hE ?_); (try clear hK hE K E)) | ((with_reducible refine W_cond (fun h => ?_) (fun h => ?_)) <;> (try (exfalso; first | assumption | omega))) | ((first | (with_reducible first | refine G_region fun K E hK hE => ?_ | refine call_ret can35 (w1) ?_ | refine W_if ?_ | refine W_ifS ?_ | refine W_and ?_)) <;> (try simp (disch := first | assumption | omega) only [go_sem, seval, hlen, hsx, mthC, strsV, stsV, *]))))
      exact ⟨s', Fg.refl _, m - 1, by omega, i + 1, by omega, by omega, rfl, HE, z_sl, z_sl, z_sl, z_sl⟩
  · have hE := HE.out
    rw [show i = ms.length by omega, ixZM_end] at hE
    have HE2 := Lib.hid hE
    clear hE HE
    (repeat' (first | refine Ctl ?_ | ((with_reducible refine Kof.use hK ?_); clear hK hE K E) | ((with_reducible refine Eof.use hE ?_); (try clear hK hE K E)) | ((with_reducible refine W_cond (fun h => ?_) (fun h => ?_)) <;> (try (exfalso; first | assumption | omega))) | ((first | (with_reducible first | refine G_region fun K E hK hE => ?_ | refine W_if ?_ | refine W_ifS ?_ | refine W_and ?_)) <;> (try simp (disch := first | assumption | omega) only [go_sem, seval, hlen, *]))))
    all_goals (first | refine W_ret res34 hQ ?_ | refine W_norm res34 hQ ?_ | refine G_pan hQ ?_)
    all_goals (refine ⟨_, _, Wk.of_eq ?_, ?_, rfl, rfl⟩)
    · rw [show _ = R from HE2]
    · (exact z_fg)
end Go.Proofs.Ytejlknplmfmceaa
