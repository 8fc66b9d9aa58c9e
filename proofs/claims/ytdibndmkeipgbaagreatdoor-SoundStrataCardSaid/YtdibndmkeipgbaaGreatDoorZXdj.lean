/- What is proved: What package osierref12's atom hands back. Conditions: what fits a memory; What package osierref12's safe hands back. Conditions: what fits a memory. Conditions: those that stand in the statements. -/
import Derived.Test.YtdibndmkeipgbaaGreatDoorZXbj
set_option linter.unusedSimpArgs false
set_option linter.unusedVariables false
set_option maxRecDepth 100000
namespace Go.Proofs.YtdibndmkeipgbaaGreatDoor
open Go.RowKit

theorem OwnOk.fg {B T : St} {o : Own} {n : Nat} (h : OwnOk B o n) (hf : Fg B T) : OwnOk T o n := by
  cases o with
  | at_ b =>
    rcases hf b with e | e
    · exact e
    · exact e.trans h
  | _ => exact h
theorem Fg.ownm {B T : St} (hf : Fg B T) {o : Own} {K : TypeId} {sz n : Nat} : Fg (B.own o K sz n) (T.own o K sz n) := by
  cases o with
  | at_ b => exact hf.set _ _
  | _ => exact hf
theorem ixZ_none {n : List UInt8} {l : List (List UInt8)} (h : ixT n l = none) : ixZ n l = -1 := by unfold ixZ; rw [h]
theorem ixZ_some {n : List UInt8} {l : List (List UInt8)} {i : Nat} (h : ixT n l = some i) : ixZ n l = (i : Int) := by unfold ixZ; rw [h]
/-- A scope whose lists are the call's own. -/
def ScO (T : St) (o1 o2 : Own) (X : Scp) : St := (T.own o1 9 1 X.vs.length).own o2 9 1 X.ds.length
def ScK (T : St) (o1 o2 : Own) (X : Scp) : Prop := OwnOk T o1 X.vs.length ∧ OwnOk (T.own o1 9 1 X.vs.length) o2 X.ds.length
def scC (X : Scp) (o1 o2 : Own) : List VV := [.lst (strs X.vs) o1, .lst (strs X.ds) o2]
def RaQ (T : St) (r : Except Int Scp) : SEnd → St → Prop := fun w u =>
  match r with
  | .ok Y => ∃ p1 p2, w = .ret (.tup [.agg (scC Y p1 p2), .int .i64 0]) ∧ u = ScO T p1 p2 Y ∧ ScK T p1 p2 Y ∧ WfS Y
  | .error e => e ≠ 0 ∧ ∃ (Z : Scp) (p1 p2 : Own), w = .ret (.tup [.agg (scC Z p1 p2), .int .i64 e]) ∧ u = T
theorem set_3 {s : St} {b1 b2 b3 b4 : Nat} {c1 c2 c3 c4 : Cell} (h3 : ¬ b3 = b2) (h4 : ¬ b4 = b2) : (((s.set b1 c1).set b2 c2).set b3 c3).set b4 c4 = (((s.set b1 c1).set b3 c3).set b4 c4).set b2 c2 := by
  rw [set_comm' (x := b2) (y := b3) (fun e => h3 e.symm), set_comm' (x := b2) (y := b4) (fun e => h4 e.symm)]
attribute [local go_sem] owned_other disown_other disown_fl owned_fl own_fl
set_option maxHeartbeats 8000000 in
theorem Ratom_S (T : St) (x : Pgm) (X : Scp) (o1 o2 o0 : Own) (a : Atm) (hK : ScK T o1 o2 X) (hx : x.doms.length ≤ 140737488355328) (hc : x.decls.length ≤ 140737488355328) (hW : WfS X) (ha : a.ts.length ≤ 100000) (hX : X.vs.length ≤ 10000000) :
    SCalls Tryz.prog 28 [.agg (pgC x), .agg (scC X o1 o2), .agg [.bool a.not, .str a.rel, .lst (a.ts.map trmC) o0]] (ScO T o1 o2 X) (RaQ T (atomS x X a)) := by
  have w2 := fun n s => RDom_S x n hx s
  have w3 := fun n s => RRel_S x n hc s
  obtain ⟨an, ar, ats⟩ := a
  obtain ⟨xds, xcs, xrs⟩ := x
  obtain ⟨hK1, hK2⟩ := hK
  simp only at ha hx hc w2 w3
  have hle : (xcs.map dclC).length = xcs.length := by simp
  have hla : (ats.map trmC).length = ats.length := by simp
  generalize hR : atomS ⟨xds, xcs, xrs⟩ X ⟨an, ar, ats⟩ = R
  unfold atomS at hR
  simp only at hR
  simp only [pgC, scC] at w2 w3 ⊢
  cases hk : relI xcs ar with
  | none =>
    rw [hk] at hR
    simp only at hR
    have hrz : relZ xcs ar = -1 := by unfold relZ; rw [hk]
    clear hk
    subst hR
    have hFT : Fg (ScO T o1 o2 X) T := (Fg.own hK2).trans (Fg.own hK1)
    generalize ScO T o1 o2 X = S at *
    have HFT := Lib.hid hFT
    clear hFT
    refine G_enter Tryz.func28 rfl Tryz.ntmps28 rfl fun Q hQ hQe => ?_
    (repeat' (first | refine Ctl ?_ | ((with_reducible refine Kof.use hK ?_); clear hK hE K E) | ((with_reducible refine Eof.use hE ?_); (try clear hK hE K E)) | ((with_reducible refine Kof.use hKh ?_); clear hKh Kh) | ((with_reducible refine Kof.use hKb (P_next ?_)); clear hKb Kb) | (with_reducible first | refine G_plan 4 [] [0, 1, 2, 3, 4, 5, 6, 7, 8, 9, 10] hQe fun K E hK hE => ?_ | refine G_plan 11 [([0, 1, 2, 3, 4, 5, 6, 7], 8, [[0, 1, 2, 3, 4, 5]])] [9] hQe fun K E hK hE => ?_ | refine G_plan 13 [([0, 1, 2, 3, 4, 5, 6, 7], 8, [[]])] [9] hQe fun K E hK hE => ?_ | refine G_plan 15 [([0, 1, 2, 3, 4, 5, 6, 7, 8], 9, [[]]), ([10], 11, [[], []])] [] hQe fun K E hK hE => ?_) | ((with_reducible refine W_cond (fun h => ?_) (fun h => ?_)) <;> (try (exfalso; first | assumption | omega))) | ((first | (with_reducible first | refine G_region fun K E hK hE => ?_ | refine call_ret can26 (w3 _ _) ?_ | refine call_ret can27 (RDom_S _ _ (by assumption) _) ?_ | refine call_ret can46 (Rfind_S _ _ _ (by assumption) _) ?_ | refine call_ret can26 (RRel_S _ _ (by assumption) _) ?_ | refine W_if ?_ | refine W_ifS ?_ | refine P_heads fun Kh hKh => ?_ | refine P_fin fun Kh hKh => ?_ | refine P_each fun Kb hKb => ?_ | refine W_and ?_) | ((with_reducible refine W_fresh (fun b hb => ?_)); (repeat (obtain ⟨_, hb⟩ := hb))) | ((with_reducible refine W_app (fun o2 ho => ?_)); (try simp (disch := assumption) only [disown_set, disown_own, ownok_o, ownok_m, List.length_map, List.length_cons, List.length_nil, Nat.zero_add, hrz] at ho); (repeat (obtain ⟨_, ho⟩ := ho)))) <;> (try simp (disch := first | assumption | omega) only [go_sem, seval, hrz, *]))))
    all_goals (first | refine W_ret res28 hQ ?_ | refine W_norm res28 hQ ?_ | refine G_pan hQ ?_)
    exact ⟨_, T, Wk.refl _, (z_fg : Fg _ S).trans HFT.out, by decide, X, o1, o2, rfl, rfl⟩
  | some k =>
    rw [hk] at hR
    simp only at hR
    have hrz : relZ xcs ar = (k : Int) := by unfold relZ; rw [hk]
    obtain ⟨dc, hdc, _⟩ : ∃ dc, xcs[k]? = some dc ∧ True := by
      have := ixT_lt hk
      rw [List.getElem?_map] at this
      obtain ⟨dc, h, _⟩ := Option.map_eq_some_iff.1 this
      exact ⟨dc, h, trivial⟩
    rw [hdc] at hR
    simp only at hR
    have hkl := (List.getElem?_eq_some_iff.1 hdc).1
    have hsd := dclC_at hdc
    obtain ⟨dn, dd⟩ := dc
    simp only at hR
    have hsl : (strs dd).length = dd.length := by simp [strs]
    clear hk hdc
    by_cases hlen : ats.length = dd.length
    · rw [if_neg (by simpa using hlen)] at hR
      have hli : ((ats.length : Int) = (dd.length : Int)) = True := eq_true (by omega)
      unfold ScO
      have hWX : X.ds.length = X.vs.length := hW
      refine G_enter Tryz.func28 rfl Tryz.ntmps28 rfl fun Q hQ hQe => ?_
      (repeat' (first | refine Ctl ?_ | ((with_reducible refine Kof.use hK ?_); clear hK hE K E) | ((with_reducible refine Eof.use hE ?_); (try clear hK hE K E)) | ((with_reducible refine Kof.use hKh ?_); clear hKh Kh) | ((with_reducible refine Kof.use hKb (P_next ?_)); clear hKb Kb) | (with_reducible first | refine G_plan 4 [] [0, 1, 2, 3, 4, 5, 6, 7, 8, 9, 10] hQe fun K E hK hE => ?_ | refine G_plan 11 [([0, 1, 2, 3, 4, 5, 6, 7], 8, [[0, 1, 2, 3, 4, 5]])] [9] hQe fun K E hK hE => ?_ | refine G_plan 13 [([0, 1, 2, 3, 4, 5, 6, 7], 8, [[]])] [9] hQe fun K E hK hE => ?_ | refine G_plan 15 [([0, 1, 2, 3, 4, 5, 6, 7, 8], 9, [[]]), ([10], 11, [[], []])] [] hQe fun K E hK hE => ?_) | ((with_reducible refine W_cond (fun h => ?_) (fun h => ?_)) <;> (try (exfalso; first | assumption | omega))) | ((first | (with_reducible first | refine G_region fun K E hK hE => ?_ | refine call_ret can26 (w3 _ _) ?_ | refine call_ret can27 (RDom_S _ _ (by assumption) _) ?_ | refine call_ret can46 (Rfind_S _ _ _ (by assumption) _) ?_ | refine call_ret can26 (RRel_S _ _ (by assumption) _) ?_ | refine W_if ?_ | refine W_ifS ?_ | refine P_heads fun Kh hKh => ?_ | refine P_fin fun Kh hKh => ?_ | refine P_each fun Kb hKb => ?_ | refine W_and ?_) | ((with_reducible refine W_fresh (fun b hb => ?_)); (repeat (obtain ⟨_, hb⟩ := hb)); (try (rw [own_fr, own_fr] at hb; obtain ⟨_, _, hb⟩ := hb))) | ((with_reducible refine W_app (fun o2 ho => ?_)); (try simp (disch := assumption) only [disown_set, disown_own, ownok_o, ownok_m, List.length_map, List.length_cons, List.length_nil, Nat.zero_add, hrz, hle, hla, hsd, dclC, hsl] at ho); (repeat (obtain ⟨_, ho⟩ := ho)))) <;> (try simp (disch := first | assumption | omega) only [go_sem, seval, hrz, hle, hla, hsd, dclC, hsl, *]))))
      rename_i bp p1 p2 hbp bx x1 x2 x3 x4 hbx ba a1 a2 a3 a4 a5 a6 hba r1 r2 r3 r4 r5 r6 r7 r8 hk0
      obtain ⟨br, hbr⟩ : ∃ z, z = b := ⟨_, rfl⟩
      subst hbr
      have hst : (((((T.own o1 9 1 X.vs.length).own o2 9 1 X.vs.length).set bp (.obj 26 [.lst (xds.map dmC) .no, .lst (xcs.map dclC) .no, .lst (xrs.map rulC) .no])).set bx (.obj 58 [.lst (strs X.vs) o1, .lst (strs X.ds) o2])).set ba (.obj 47 [.bool an, .str ar, .lst (ats.map trmC) o0])).set br (.obj 58 [.lst [] .full, .lst [] .full]) = (((((T.set bp (.obj 26 [.lst (xds.map dmC) .no, .lst (xcs.map dclC) .no, .lst (xrs.map rulC) .no])).set ba (.obj 47 [.bool an, .str ar, .lst (ats.map trmC) o0])).set br (.obj 58 [.lst [] .full, .lst [] .full])).own o1 9 1 X.vs.length).own o2 9 1 X.vs.length).set bx (.obj 58 [.lst (strs X.vs) o1, .lst (strs X.ds) o2]) := by
        rw [own_push r8, own_push a6, own_push p2, own_push r7, own_push a5, own_push p1]
        exact set_3 a1 r3
      rw [hst]
      have hB1 : OwnOk (((T.set bp (.obj 26 [.lst (xds.map dmC) .no, .lst (xcs.map dclC) .no, .lst (xrs.map rulC) .no])).set ba (.obj 47 [.bool an, .str ar, .lst (ats.map trmC) o0])).set br (.obj 58 [.lst [] .full, .lst [] .full])) o1 X.vs.length := by
        rw [ownok_o, ownok_o, ownok_o]; exact ⟨r8, a6, p2, hK1⟩
      have hB2 : OwnOk ((((T.set bp (.obj 26 [.lst (xds.map dmC) .no, .lst (xcs.map dclC) .no, .lst (xrs.map rulC) .no])).set ba (.obj 47 [.bool an, .str ar, .lst (ats.map trmC) o0])).set br (.obj 58 [.lst [] .full, .lst [] .full])).own o1 9 1 X.vs.length) o2 X.vs.length := by
        rw [own_push r8, own_push a6, own_push p2, ownok_o, ownok_o, ownok_o]; rw [hWX] at hK2; exact ⟨r7, a5, p1, hK2⟩
      have hBp : (((T.set bp (.obj 26 [.lst (xds.map dmC) .no, .lst (xcs.map dclC) .no, .lst (xrs.map rulC) .no])).set ba (.obj 47 [.bool an, .str ar, .lst (ats.map trmC) o0])).set br (.obj 58 [.lst [] .full, .lst [] .full])) bp = (.obj 26 [.lst (xds.map dmC) .no, .lst (xcs.map dclC) .no, .lst (xrs.map rulC) .no]) := by rw [St.set_other _ _ r6, St.set_other _ _ a4, St.set_same]
      have hBa : (((T.set bp (.obj 26 [.lst (xds.map dmC) .no, .lst (xcs.map dclC) .no, .lst (xrs.map rulC) .no])).set ba (.obj 47 [.bool an, .str ar, .lst (ats.map trmC) o0])).set br (.obj 58 [.lst [] .full, .lst [] .full])) ba = (.obj 47 [.bool an, .str ar, .lst (ats.map trmC) o0]) := by rw [St.set_other _ _ r2, St.set_same]
      have hBr : (((T.set bp (.obj 26 [.lst (xds.map dmC) .no, .lst (xcs.map dclC) .no, .lst (xrs.map rulC) .no])).set ba (.obj 47 [.bool an, .str ar, .lst (ats.map trmC) o0])).set br (.obj 58 [.lst [] .full, .lst [] .full])) br = (.obj 58 [.lst [] .full, .lst [] .full]) := St.set_same _ _ _
      have hBx : (((T.set bp (.obj 26 [.lst (xds.map dmC) .no, .lst (xcs.map dclC) .no, .lst (xrs.map rulC) .no])).set ba (.obj 47 [.bool an, .str ar, .lst (ats.map trmC) o0])).set br (.obj 58 [.lst [] .full, .lst [] .full])) bx = .free := by rw [St.set_other _ _ r4, St.set_other _ _ a2, St.set_other _ _ x1]; exact hbx
      have hF : Fg (((T.set bp (.obj 26 [.lst (xds.map dmC) .no, .lst (xcs.map dclC) .no, .lst (xrs.map rulC) .no])).set ba (.obj 47 [.bool an, .str ar, .lst (ats.map trmC) o0])).set br (.obj 58 [.lst [] .full, .lst [] .full])) T := z_fg
      generalize (((T.set bp (.obj 26 [.lst (xds.map dmC) .no, .lst (xcs.map dclC) .no, .lst (xrs.map rulC) .no])).set ba (.obj 47 [.bool an, .str ar, .lst (ats.map trmC) o0])).set br (.obj 58 [.lst [] .full, .lst [] .full])) = B at *
      have HF := Lib.hid hF
      have HTB := Lib.hid hb
      have HTX := Lib.hid hbx
      have hBpf : B bp ≠ .free := by rw [hBp]; simp
      have hBaf : B ba ≠ .free := by rw [hBa]; simp
      have hBrf : B br ≠ .free := by rw [hBr]; simp
      clear hst hF hb hbx hba hbp p1 p2 a5 a6 r7 r8 hK1 hK2
      refine G_loop (fun m env s' => ∃ (i : Nat) (Y : Scp) (p1 p2 : Own), i ≤ ats.length ∧ m + i = ats.length ∧ Y.ds.length = Y.vs.length ∧ Y.vs.length ≤ X.vs.length + i ∧ Hid (termsS (domZ xds) Y (ats.drop i) (dd.drop i) = R) ∧
        OwnOk B p1 Y.vs.length ∧ OwnOk (B.own p1 9 1 Y.vs.length) p2 Y.vs.length ∧ NotOwn p1 bx ∧ NotOwn p2 bx ∧
        s' = ((B.own p1 9 1 Y.vs.length).own p2 9 1 Y.vs.length).set bx (.obj 58 [.lst (strs Y.vs) p1, .lst (strs Y.ds) p2]) ∧
        env 3 = .ptr bp 0 ∧ env 4 = .ptr bx 0 ∧ env 5 = .ptr ba 0 ∧ env 6 = .ptr br 0 ∧ env 8 = .int .i64 k ∧ env 9 = .int .i64 i) ats.length ?_ ?_
      · exact ⟨_, Fg.refl _, 0, X, o1, o2, by omega, by omega, hWX, by omega, Lib.hid hR, hB1, hB2, x4, x3, rfl, z_sl, z_sl, z_sl, z_sl, z_sl, z_sl⟩
      clear hR hB1 hB2 hWX hW x3 x4
      rintro m env s' ⟨i, Y, p1, p2, hi, hm, hWY, hYl, HI, hq1, hq2, hx1, hx2, rfl, e3, e4, e5, e6, e8, e9⟩
      have hp1p := hq1.not hBpf
      have hp1a := hq1.not hBaf
      have hp1r := hq1.not hBrf
      have hp2p := hq2.not (b := bp) (by rw [own_rd hp1p]; exact hBpf)
      have hp2a := hq2.not (b := ba) (by rw [own_rd hp1a]; exact hBaf)
      have hp2r := hq2.not (b := br) (by rw [own_rd hp1r]; exact hBrf)
      have hl1 : (strs Y.vs).length = Y.vs.length := by simp [strs]
      have hl2 : (strs Y.ds).length = Y.vs.length := by simp [strs, hWY]
      by_cases hlt : i < ats.length
      · obtain ⟨c, hc⟩ := uget hlt
        obtain ⟨d, hd⟩ := uget (l := dd) (i := i) (by omega)
        have hsx := trmC_at hc
        have hsy := strs_at hd
        have hI := HI.out
        rw [List.drop_eq_getElem_cons hlt, show ats[i] = c by rw [List.getElem?_eq_getElem hlt] at hc; injection hc, List.drop_eq_getElem_cons (show i < dd.length by omega), show dd[i] = d by rw [List.getElem?_eq_getElem (by omega)] at hd; injection hd] at hI
        simp only [termsS] at hI
        clear hc hd HI
        obtain ⟨cv, cn, cz⟩ := c
        cases cv
        · rw [termS_const] at hI
          by_cases hdz : domZ xds d ≤ cz
          · rw [if_pos hdz, eb_err] at hI
            subst hI
            (repeat' (first | refine Ctl ?_ | ((with_reducible refine Kof.use hK ?_); clear hK hE K E) | ((with_reducible refine Eof.use hE ?_); (try clear hK hE K E)) | ((with_reducible refine Kof.use hKh ?_); clear hKh Kh) | ((with_reducible refine Kof.use hKb (P_next ?_)); clear hKb Kb) | (with_reducible first | refine G_plan 4 [] [0, 1, 2, 3, 4, 5, 6, 7, 8, 9, 10] hQe fun K E hK hE => ?_ | refine G_plan 11 [([0, 1, 2, 3, 4, 5, 6, 7], 8, [[0, 1, 2, 3, 4, 5]])] [9] hQe fun K E hK hE => ?_ | refine G_plan 13 [([0, 1, 2, 3, 4, 5, 6, 7], 8, [[]])] [9] hQe fun K E hK hE => ?_ | refine G_plan 15 [([0, 1, 2, 3, 4, 5, 6, 7, 8], 9, [[]]), ([10], 11, [[], []])] [] hQe fun K E hK hE => ?_) | ((with_reducible refine W_cond (fun h => ?_) (fun h => ?_)) <;> (try (exfalso; first | assumption | omega))) | ((first | (with_reducible first | refine G_region fun K E hK hE => ?_ | refine call_ret can27 (w2 _ _) ?_ | refine call_ret can27 (RDom_S _ _ (by assumption) _) ?_ | refine call_ret can46 (Rfind_S _ _ _ (by assumption) _) ?_ | refine call_ret can26 (RRel_S _ _ (by assumption) _) ?_ | refine W_if ?_ | refine W_ifS ?_ | refine P_heads fun Kh hKh => ?_ | refine P_fin fun Kh hKh => ?_ | refine P_each fun Kb hKb => ?_ | refine W_and ?_) | ((with_reducible refine W_fresh (fun b hb => ?_)); (repeat (obtain ⟨_, hb⟩ := hb))) | ((with_reducible refine W_app (fun o2 ho => ?_)); (try simp (disch := assumption) only [disown_set, disown_own, ownok_o, ownok_m, List.length_map, List.length_cons, List.length_nil, Nat.zero_add, hle, hla, hsd, dclC, hsl, hsx, hsy, trmC, hl1, hl2] at ho); (repeat (obtain ⟨_, ho⟩ := ho)))) <;> (try simp (disch := first | assumption | omega) only [go_sem, seval, hle, hla, hsd, dclC, hsl, hsx, hsy, trmC, hl1, hl2, *]))))
            all_goals (first | refine W_ret res28 hQ ?_ | refine W_norm res28 hQ ?_ | refine G_pan hQ ?_)
            exact ⟨_, T, Wk.refl _, Fg.setA (Fg.setA (((Fg.own hq2).trans (Fg.own hq1)).trans HF.out) HTX.out) HTB.out, by decide, Y, p1, p2, rfl, rfl⟩
          · rw [if_neg hdz, eb_ok] at hI
            have HI2 := Lib.hid hI
            clear hI
            (repeat' (first | refine Ctl ?_ | ((with_reducible refine Kof.use hK ?_); clear hK hE K E) | ((with_reducible refine Eof.use hE ?_); (try clear hK hE K E)) | ((with_reducible refine Kof.use hKh ?_); clear hKh Kh) | ((with_reducible refine Kof.use hKb (P_next ?_)); clear hKb Kb) | (with_reducible first | refine G_plan 4 [] [0, 1, 2, 3, 4, 5, 6, 7, 8, 9, 10] hQe fun K E hK hE => ?_ | refine G_plan 11 [([0, 1, 2, 3, 4, 5, 6, 7], 8, [[0, 1, 2, 3, 4, 5]])] [9] hQe fun K E hK hE => ?_ | refine G_plan 13 [([0, 1, 2, 3, 4, 5, 6, 7], 8, [[]])] [9] hQe fun K E hK hE => ?_ | refine G_plan 15 [([0, 1, 2, 3, 4, 5, 6, 7, 8], 9, [[]]), ([10], 11, [[], []])] [] hQe fun K E hK hE => ?_) | ((with_reducible refine W_cond (fun h => ?_) (fun h => ?_)) <;> (try (exfalso; first | assumption | omega))) | ((first | (with_reducible first | refine G_region fun K E hK hE => ?_ | refine call_ret can27 (w2 _ _) ?_ | refine call_ret can27 (RDom_S _ _ (by assumption) _) ?_ | refine call_ret can46 (Rfind_S _ _ _ (by assumption) _) ?_ | refine call_ret can26 (RRel_S _ _ (by assumption) _) ?_ | refine W_if ?_ | refine W_ifS ?_ | refine P_heads fun Kh hKh => ?_ | refine P_fin fun Kh hKh => ?_ | refine P_each fun Kb hKb => ?_ | refine W_and ?_) | ((with_reducible refine W_fresh (fun b hb => ?_)); (repeat (obtain ⟨_, hb⟩ := hb))) | ((with_reducible refine W_app (fun o2 ho => ?_)); (try simp (disch := assumption) only [disown_set, disown_own, ownok_o, ownok_m, List.length_map, List.length_cons, List.length_nil, Nat.zero_add, hle, hla, hsd, dclC, hsl, hsx, hsy, trmC, hl1, hl2] at ho); (repeat (obtain ⟨_, ho⟩ := ho)))) <;> (try simp (disch := first | assumption | omega) only [go_sem, seval, hle, hla, hsd, dclC, hsl, hsx, hsy, trmC, hl1, hl2, *]))))
            exact ⟨_, Fg.refl _, m - 1, by omega, i + 1, Y, p1, p2, by omega, by omega, hWY, by omega, HI2, hq1, hq2, hx1, hx2, rfl, z_sl, z_sl, z_sl, z_sl, z_sl, z_sl⟩
        · have w4 := fun s => Rfind_S Y.vs cn p1 (by omega) s
          cases hx : ixT cn Y.vs with
          | none =>
            rw [termS_new hx, eb_ok] at hI
            have HI2 := Lib.hid hI
            rw [ixZ_none hx] at w4
            clear hI hx
            have hq2b := own_base hq2
            (repeat' (first | refine Ctl ?_ | ((with_reducible refine Kof.use hK ?_); clear hK hE K E) | ((with_reducible refine Eof.use hE ?_); (try clear hK hE K E)) | ((with_reducible refine Kof.use hKh ?_); clear hKh Kh) | ((with_reducible refine Kof.use hKb (P_next ?_)); clear hKb Kb) | (with_reducible first | refine G_plan 4 [] [0, 1, 2, 3, 4, 5, 6, 7, 8, 9, 10] hQe fun K E hK hE => ?_ | refine G_plan 11 [([0, 1, 2, 3, 4, 5, 6, 7], 8, [[0, 1, 2, 3, 4, 5]])] [9] hQe fun K E hK hE => ?_ | refine G_plan 13 [([0, 1, 2, 3, 4, 5, 6, 7], 8, [[]])] [9] hQe fun K E hK hE => ?_ | refine G_plan 15 [([0, 1, 2, 3, 4, 5, 6, 7, 8], 9, [[]]), ([10], 11, [[], []])] [] hQe fun K E hK hE => ?_) | ((with_reducible refine W_cond (fun h => ?_) (fun h => ?_)) <;> (try (exfalso; first | assumption | omega))) | ((first | (with_reducible first | refine G_region fun K E hK hE => ?_ | refine call_ret can46 (w4 _) ?_ | refine call_ret can27 (RDom_S _ _ (by assumption) _) ?_ | refine call_ret can46 (Rfind_S _ _ _ (by assumption) _) ?_ | refine call_ret can26 (RRel_S _ _ (by assumption) _) ?_ | refine W_if ?_ | refine W_ifS ?_ | refine P_heads fun Kh hKh => ?_ | refine P_fin fun Kh hKh => ?_ | refine P_each fun Kb hKb => ?_ | refine W_and ?_) | ((with_reducible refine W_fresh (fun b hb => ?_)); (repeat (obtain ⟨_, hb⟩ := hb))) | ((with_reducible refine W_app (fun o2 ho => ?_)); (try simp (disch := assumption) only [disown_set, disown_own, ownok_o, ownok_m, List.length_map, List.length_cons, List.length_nil, Nat.zero_add, hle, hla, hsd, dclC, hsl, hsx, hsy, trmC, hl1, hl2, disown_other] at ho); (repeat (obtain ⟨_, ho⟩ := ho)))) <;> (try simp (disch := first | assumption | omega) only [go_sem, seval, hle, hla, hsd, dclC, hsl, hsx, hsy, trmC, hl1, hl2, disown_other, *]))))
            rename_i o3 m1 g1 m2
            refine ⟨_, Fg.refl _, m - 1, by omega, i + 1, ⟨Y.vs ++ [cn], Y.ds ++ [d]⟩, o3, o2, by omega, by omega, by simp [hWY], by simp; omega, HI2, ?_, ?_, m1, m2, ?_, z_sl, z_sl, z_sl, z_sl, z_sl, z_sl⟩
            · simp only [List.length_append, List.length_cons, List.length_nil]; exact own_base g1
            · simp only [List.length_append, List.length_cons, List.length_nil]; exact ho
            · simp only [List.length_append, List.length_cons, List.length_nil, strs, List.map_append, List.map_cons, List.map_nil]
          | some j =>
            rw [termS_old hx] at hI
            rw [ixZ_some hx] at w4
            have hjl := (List.getElem?_eq_some_iff.1 (ixT_lt hx)).1
            obtain ⟨dj, hdj⟩ := uget (l := Y.ds) (i := j) (by omega)
            have hsj := strs_at hdj
            rw [hdj] at hI
            clear hx hdj
            by_cases hdd : dj = d
            · subst hdd
              rw [if_pos rfl, eb_ok] at hI
              have HI2 := Lib.hid hI
              clear hI
              (repeat' (first | refine Ctl ?_ | ((with_reducible refine Kof.use hK ?_); clear hK hE K E) | ((with_reducible refine Eof.use hE ?_); (try clear hK hE K E)) | ((with_reducible refine Kof.use hKh ?_); clear hKh Kh) | ((with_reducible refine Kof.use hKb (P_next ?_)); clear hKb Kb) | (with_reducible first | refine G_plan 4 [] [0, 1, 2, 3, 4, 5, 6, 7, 8, 9, 10] hQe fun K E hK hE => ?_ | refine G_plan 11 [([0, 1, 2, 3, 4, 5, 6, 7], 8, [[0, 1, 2, 3, 4, 5]])] [9] hQe fun K E hK hE => ?_ | refine G_plan 13 [([0, 1, 2, 3, 4, 5, 6, 7], 8, [[]])] [9] hQe fun K E hK hE => ?_ | refine G_plan 15 [([0, 1, 2, 3, 4, 5, 6, 7, 8], 9, [[]]), ([10], 11, [[], []])] [] hQe fun K E hK hE => ?_) | ((with_reducible refine W_cond (fun h => ?_) (fun h => ?_)) <;> (try (exfalso; first | assumption | omega))) | ((first | (with_reducible first | refine G_region fun K E hK hE => ?_ | refine call_ret can46 (w4 _) ?_ | refine call_ret can27 (RDom_S _ _ (by assumption) _) ?_ | refine call_ret can46 (Rfind_S _ _ _ (by assumption) _) ?_ | refine call_ret can26 (RRel_S _ _ (by assumption) _) ?_ | refine W_if ?_ | refine W_ifS ?_ | refine P_heads fun Kh hKh => ?_ | refine P_fin fun Kh hKh => ?_ | refine P_each fun Kb hKb => ?_ | refine W_and ?_) | ((with_reducible refine W_fresh (fun b hb => ?_)); (repeat (obtain ⟨_, hb⟩ := hb))) | ((with_reducible refine W_app (fun o2 ho => ?_)); (try simp (disch := assumption) only [disown_set, disown_own, ownok_o, ownok_m, List.length_map, List.length_cons, List.length_nil, Nat.zero_add, hle, hla, hsd, dclC, hsl, hsx, hsy, trmC, hl1, hl2, hsj] at ho); (repeat (obtain ⟨_, ho⟩ := ho)))) <;> (try simp (disch := first | assumption | omega) only [go_sem, seval, hle, hla, hsd, dclC, hsl, hsx, hsy, trmC, hl1, hl2, hsj, *]))))
              exact ⟨_, Fg.refl _, m - 1, by omega, i + 1, Y, p1, p2, by omega, by omega, hWY, by omega, HI2, hq1, hq2, hx1, hx2, rfl, z_sl, z_sl, z_sl, z_sl, z_sl, z_sl⟩
            · rw [if_neg (fun e => hdd (by injection e)), eb_err] at hI
              subst hI
              have hdf : (dj = d) = False := eq_false hdd
              (repeat' (first | refine Ctl ?_ | ((with_reducible refine Kof.use hK ?_); clear hK hE K E) | ((with_reducible refine Eof.use hE ?_); (try clear hK hE K E)) | ((with_reducible refine Kof.use hKh ?_); clear hKh Kh) | ((with_reducible refine Kof.use hKb (P_next ?_)); clear hKb Kb) | (with_reducible first | refine G_plan 4 [] [0, 1, 2, 3, 4, 5, 6, 7, 8, 9, 10] hQe fun K E hK hE => ?_ | refine G_plan 11 [([0, 1, 2, 3, 4, 5, 6, 7], 8, [[0, 1, 2, 3, 4, 5]])] [9] hQe fun K E hK hE => ?_ | refine G_plan 13 [([0, 1, 2, 3, 4, 5, 6, 7], 8, [[]])] [9] hQe fun K E hK hE => ?_ | refine G_plan 15 [([0, 1, 2, 3, 4, 5, 6, 7, 8], 9, [[]]), ([10], 11, [[], []])] [] hQe fun K E hK hE => ?_) | ((with_reducible refine W_cond (fun h => ?_) (fun h => ?_)) <;> (try (exfalso; first | assumption | omega))) | ((first | (with_reducible first | refine G_region fun K E hK hE => ?_ | refine call_ret can46 (w4 _) ?_ | refine call_ret can27 (RDom_S _ _ (by assumption) _) ?_ | refine call_ret can46 (Rfind_S _ _ _ (by assumption) _) ?_ | refine call_ret can26 (RRel_S _ _ (by assumption) _) ?_ | refine W_if ?_ | refine W_ifS ?_ | refine P_heads fun Kh hKh => ?_ | refine P_fin fun Kh hKh => ?_ | refine P_each fun Kb hKb => ?_ | refine W_and ?_) | ((with_reducible refine W_fresh (fun b hb => ?_)); (repeat (obtain ⟨_, hb⟩ := hb))) | ((with_reducible refine W_app (fun o2 ho => ?_)); (try simp (disch := assumption) only [disown_set, disown_own, ownok_o, ownok_m, List.length_map, List.length_cons, List.length_nil, Nat.zero_add, hle, hla, hsd, dclC, hsl, hsx, hsy, trmC, hl1, hl2, hsj] at ho); (repeat (obtain ⟨_, ho⟩ := ho)))) <;> (try simp (disch := first | assumption | omega) only [go_sem, seval, hle, hla, hsd, dclC, hsl, hsx, hsy, trmC, hl1, hl2, hsj, *]))))
              all_goals (first | refine W_ret res28 hQ ?_ | refine W_norm res28 hQ ?_ | refine G_pan hQ ?_)
              exact ⟨_, T, Wk.refl _, Fg.setA (Fg.setA (((Fg.own hq2).trans (Fg.own hq1)).trans HF.out) HTX.out) HTB.out, by decide, Y, p1, p2, rfl, rfl⟩
      · have hI := HI.out
        rw [show i = ats.length by omega, List.drop_length] at hI
        simp only [termsS] at hI
        subst hI
        clear HI
        (repeat' (first | refine Ctl ?_ | ((with_reducible refine Kof.use hK ?_); clear hK hE K E) | ((with_reducible refine Eof.use hE ?_); (try clear hK hE K E)) | ((with_reducible refine Kof.use hKh ?_); clear hKh Kh) | ((with_reducible refine Kof.use hKb (P_next ?_)); clear hKb Kb) | (with_reducible first | refine G_plan 4 [] [0, 1, 2, 3, 4, 5, 6, 7, 8, 9, 10] hQe fun K E hK hE => ?_ | refine G_plan 11 [([0, 1, 2, 3, 4, 5, 6, 7], 8, [[0, 1, 2, 3, 4, 5]])] [9] hQe fun K E hK hE => ?_ | refine G_plan 13 [([0, 1, 2, 3, 4, 5, 6, 7], 8, [[]])] [9] hQe fun K E hK hE => ?_ | refine G_plan 15 [([0, 1, 2, 3, 4, 5, 6, 7, 8], 9, [[]]), ([10], 11, [[], []])] [] hQe fun K E hK hE => ?_) | ((with_reducible refine W_cond (fun h => ?_) (fun h => ?_)) <;> (try (exfalso; first | assumption | omega))) | ((first | (with_reducible first | refine G_region fun K E hK hE => ?_ | refine call_ret can27 (RDom_S _ _ (by assumption) _) ?_ | refine call_ret can46 (Rfind_S _ _ _ (by assumption) _) ?_ | refine call_ret can26 (RRel_S _ _ (by assumption) _) ?_ | refine W_if ?_ | refine W_ifS ?_ | refine P_heads fun Kh hKh => ?_ | refine P_fin fun Kh hKh => ?_ | refine P_each fun Kb hKb => ?_ | refine W_and ?_) | ((with_reducible refine W_fresh (fun b hb => ?_)); (repeat (obtain ⟨_, hb⟩ := hb))) | ((with_reducible refine W_app (fun o2 ho => ?_)); (try simp (disch := assumption) only [disown_set, disown_own, ownok_o, ownok_m, List.length_map, List.length_cons, List.length_nil, Nat.zero_add, hla] at ho); (repeat (obtain ⟨_, ho⟩ := ho)))) <;> (try simp (disch := first | assumption | omega) only [go_sem, seval, hla, *]))))
        all_goals (first | refine W_ret res28 hQ ?_ | refine W_norm res28 hQ ?_ | refine G_pan hQ ?_)
        refine ⟨_, ScO T p1 p2 Y, Wk.refl _, ?_, p1, p2, rfl, rfl, ⟨hq1.fg HF.out, ?_⟩, hWY⟩
        · unfold ScO
          rw [hWY]
          exact Fg.setA (Fg.setA (Fg.ownm (Fg.ownm HF.out)) (by rw [own_fr, own_fr]; exact ⟨hx2, hx1, HTX.out⟩)) (by rw [own_fr, own_fr]; exact ⟨hp2r, hp1r, HTB.out⟩)
        · rw [hWY]
          exact hq2.fg (Fg.ownm HF.out)
    · rw [if_pos (by simpa using hlen)] at hR
      have hli : ((ats.length : Int) = (dd.length : Int)) = False := eq_false (by omega)
      subst hR
      have hFT : Fg (ScO T o1 o2 X) T := (Fg.own hK2).trans (Fg.own hK1)
      generalize ScO T o1 o2 X = S at *
      have HFT := Lib.hid hFT
      clear hFT
      refine G_enter Tryz.func28 rfl Tryz.ntmps28 rfl fun Q hQ hQe => ?_
      (repeat' (first | refine Ctl ?_ | ((with_reducible refine Kof.use hK ?_); clear hK hE K E) | ((with_reducible refine Eof.use hE ?_); (try clear hK hE K E)) | ((with_reducible refine Kof.use hKh ?_); clear hKh Kh) | ((with_reducible refine Kof.use hKb (P_next ?_)); clear hKb Kb) | (with_reducible first | refine G_plan 4 [] [0, 1, 2, 3, 4, 5, 6, 7, 8, 9, 10] hQe fun K E hK hE => ?_ | refine G_plan 11 [([0, 1, 2, 3, 4, 5, 6, 7], 8, [[0, 1, 2, 3, 4, 5]])] [9] hQe fun K E hK hE => ?_ | refine G_plan 13 [([0, 1, 2, 3, 4, 5, 6, 7], 8, [[]])] [9] hQe fun K E hK hE => ?_ | refine G_plan 15 [([0, 1, 2, 3, 4, 5, 6, 7, 8], 9, [[]]), ([10], 11, [[], []])] [] hQe fun K E hK hE => ?_) | ((with_reducible refine W_cond (fun h => ?_) (fun h => ?_)) <;> (try (exfalso; first | assumption | omega))) | ((first | (with_reducible first | refine G_region fun K E hK hE => ?_ | refine call_ret can26 (w3 _ _) ?_ | refine call_ret can27 (RDom_S _ _ (by assumption) _) ?_ | refine call_ret can46 (Rfind_S _ _ _ (by assumption) _) ?_ | refine call_ret can26 (RRel_S _ _ (by assumption) _) ?_ | refine W_if ?_ | refine W_ifS ?_ | refine P_heads fun Kh hKh => ?_ | refine P_fin fun Kh hKh => ?_ | refine P_each fun Kb hKb => ?_ | refine W_and ?_) | ((with_reducible refine W_fresh (fun b hb => ?_)); (repeat (obtain ⟨_, hb⟩ := hb))) | ((with_reducible refine W_app (fun o2 ho => ?_)); (try simp (disch := assumption) only [disown_set, disown_own, ownok_o, ownok_m, List.length_map, List.length_cons, List.length_nil, Nat.zero_add, hrz, hle, hla, hsd, dclC, hsl] at ho); (repeat (obtain ⟨_, ho⟩ := ho)))) <;> (try simp (disch := first | assumption | omega) only [go_sem, seval, hrz, hle, hla, hsd, dclC, hsl, *]))))
      all_goals (first | refine W_ret res28 hQ ?_ | refine W_norm res28 hQ ?_ | refine G_pan hQ ?_)
      exact ⟨_, T, Wk.refl _, (z_fg : Fg _ S).trans HFT.out, by decide, X, o1, o2, rfl, rfl⟩
end Go.Proofs.YtdibndmkeipgbaaGreatDoor
set_option maxRecDepth 100000
namespace Go.Proofs.YtdibndmkeipgbaaGreatDoor
open Go.RowKit

theorem any_take {α : Type} {l : List α} {p : α → Bool} {i : Nat} {x : α} (hx : l[i]? = some x) : (l.take (i + 1)).any p = ((l.take i).any p || p x) := by
  rw [utake hx, List.any_append]; simp
theorem given_take {l : List Atm} {i : Nat} {a : Atm} {n : List UInt8} (h : l[i]? = some a) : givenB (l.take (i + 1)) n = (givenB (l.take i) n || (!a.not && a.ts.any fun t => t.var && decide (t.nm = n))) := any_take h
set_option maxHeartbeats 8000000 in
theorem Rsafe_S (T : St) (r : Rul) (a : Atm) (o0 : Own) (hr : r.body.length ≤ 140737488355328) (ha : a.ts.length ≤ 140737488355328) (hb : ∀ c, c ∈ r.body → c.ts.length ≤ 140737488355328) :
    SRet Tryz.prog 29 [.agg (rulC r), .agg [.bool a.not, .str a.rel, .lst (a.ts.map trmC) o0]] T (.bool (withB r.body a)) T := by
  obtain ⟨⟨hn, hrel, hts⟩, body⟩ := r
  obtain ⟨an, ar, ats⟩ := a
  simp only at hr ha hb
  have HB := Lib.hid hb
  clear hb
  have hla : (ats.map trmC).length = ats.length := by simp
  have hlb : (body.map atmC).length = body.length := by simp
  generalize hW : withB body ⟨an, ar, ats⟩ = W
  have HW := Lib.hid hW
  clear hW
  simp only [rulC]
  refine G_enter Tryz.func29 rfl Tryz.ntmps29 rfl fun Q hQ hQe => ?_
  (repeat' (first | refine Ctl ?_ | ((with_reducible refine Kof.use hK ?_); clear hK hE K E) | ((with_reducible refine Eof.use hE ?_); (try clear hK hE K E)) | ((with_reducible refine Kof.use hKh ?_); clear hKh Kh) | ((with_reducible refine Kof.use hKb (P_next ?_)); clear hKb Kb) | (with_reducible refine G_plan 12 [([0, 1, 2, 3, 4, 5, 6, 7, 8, 9, 10, 11, 12, 13, 14, 15, 16, 17, 18, 19, 20, 21, 22, 23, 24], 25, [[0, 1, 2, 3, 4, 5, 6, 7, 8, 9, 10, 11, 12, 13, 14, 15, 16, 17, 18, 19, 20, 21, 22, 23, 24]])] [] hQe fun K E hK hE => ?_) | ((with_reducible refine W_cond (fun h => ?_) (fun h => ?_)) <;> (try (exfalso; first | assumption | omega))) | ((first | (with_reducible first | refine G_region fun K E hK hE => ?_ | refine W_if ?_ | refine W_ifS ?_ | refine P_heads fun Kh hKh => ?_ | refine P_fin fun Kh hKh => ?_ | refine P_each fun Kb hKb => ?_ | refine W_and ?_) | ((with_reducible refine W_fresh (fun b hb => ?_)); (repeat (obtain ⟨_, hb⟩ := hb))) | ((with_reducible refine W_gd (fun h => ?_) (fun h => ?_)) <;> (try (exfalso; first | assumption | omega)))) <;> (try simp (disch := first | assumption | omega) only [go_sem, seval, hla, hlb, *]))))
  rename_i br hbr n1 n2
  obtain ⟨ba, hba⟩ : ∃ z, z = b := ⟨_, rfl⟩
  subst hba
  have hSr : ((T.set br (.obj 50 [.bool hn, .str hrel, .lst (hts.map trmC) .no, .lst (body.map atmC) .no])).set ba (.obj 47 [.bool an, .str ar, .lst (ats.map trmC) o0])) br = (.obj 50 [.bool hn, .str hrel, .lst (hts.map trmC) .no, .lst (body.map atmC) .no]) := by rw [St.set_other _ _ n2, St.set_same]
  have hSa : ((T.set br (.obj 50 [.bool hn, .str hrel, .lst (hts.map trmC) .no, .lst (body.map atmC) .no])).set ba (.obj 47 [.bool an, .str ar, .lst (ats.map trmC) o0])) ba = (.obj 47 [.bool an, .str ar, .lst (ats.map trmC) o0]) := St.set_same _ _ _
  have hF : Fg ((T.set br (.obj 50 [.bool hn, .str hrel, .lst (hts.map trmC) .no, .lst (body.map atmC) .no])).set ba (.obj 47 [.bool an, .str ar, .lst (ats.map trmC) o0])) T := z_fg
  generalize (T.set br (.obj 50 [.bool hn, .str hrel, .lst (hts.map trmC) .no, .lst (body.map atmC) .no])).set ba (.obj 47 [.bool an, .str ar, .lst (ats.map trmC) o0]) = S at *
  have HF := Lib.hid hF
  clear hF hb hbr n1 n2
  have hSrf : S br ≠ .free := by rw [hSr]; simp
  have hSaf : S ba ≠ .free := by rw [hSa]; simp
  refine G_loop (fun m env s' => ∃ i : Nat, i ≤ ats.length ∧ m + i = ats.length ∧ s' = S ∧ Hid ((ats.take i).all (fun t => !t.var || givenB body t.nm) = true) ∧ env 2 = .ptr br 0 ∧ env 3 = .ptr ba 0 ∧ env 5 = .int .i64 i) ats.length ?_ ?_
  · exact ⟨_, Fg.refl _, 0, by omega, by omega, rfl, Lib.hid rfl, z_sl, z_sl, z_sl⟩
  rintro m env s' ⟨i, hi, hm, rfl, HA, e2, e3, e5⟩
  by_cases hlt : i < ats.length
  · obtain ⟨c, hc⟩ := uget hlt
    have hsx := trmC_at hc
    have HC := Lib.hid hc
    clear hc
    obtain ⟨tv, tn, tz⟩ := c
    (repeat' (first | refine Ctl ?_ | ((with_reducible refine Kof.use hK ?_); clear hK hE K E) | ((with_reducible refine Eof.use hE ?_); (try clear hK hE K E)) | ((with_reducible refine Kof.use hKh ?_); clear hKh Kh) | ((with_reducible refine Kof.use hKb (P_next ?_)); clear hKb Kb) | (with_reducible refine G_plan 12 [([0, 1, 2, 3, 4, 5, 6, 7, 8, 9, 10, 11, 12, 13, 14, 15, 16, 17, 18, 19, 20, 21, 22, 23, 24], 25, [[0, 1, 2, 3, 4, 5, 6, 7, 8, 9, 10, 11, 12, 13, 14, 15, 16, 17, 18, 19, 20, 21, 22, 23, 24]])] [] hQe fun K E hK hE => ?_) | ((with_reducible refine W_cond (fun h => ?_) (fun h => ?_)) <;> (try (exfalso; first | assumption | omega))) | ((first | (with_reducible first | refine G_region fun K E hK hE => ?_ | refine W_if ?_ | refine W_ifS ?_ | refine P_heads fun Kh hKh => ?_ | refine P_fin fun Kh hKh => ?_ | refine P_each fun Kb hKb => ?_ | refine W_and ?_) | ((with_reducible refine W_fresh (fun b hb => ?_)); (repeat (obtain ⟨_, hb⟩ := hb))) | ((with_reducible refine W_gd (fun h => ?_) (fun h => ?_)) <;> (try (exfalso; first | assumption | omega)))) <;> (try simp (disch := first | assumption | omega) only [go_sem, seval, hla, hlb, hsx, trmC, *]))))
    refine G_loop (fun m' env s2 => ∃ (k : Nat) (w : Bool), k ≤ body.length ∧ m' + k = body.length ∧ s2 = s' ∧ env 2 = .ptr br 0 ∧ env 3 = .ptr ba 0 ∧ env 5 = .int .i64 i ∧ env 6 = .bool w ∧ env 7 = .int .i64 k ∧ Hid (w = (!tv || givenB (body.take k) tn))) body.length ?_ ?_
    · exact ⟨_, Fg.refl _, 0, _, by omega, by omega, rfl, z_sl, z_sl, z_sl, z_sr, z_sl, Lib.hid (by simp [givenB])⟩
    clear e2 e3 e5 env
    rintro m' env s2 ⟨k, w, hk, hm', rfl, e2, e3, e5, e6, e7, HK⟩
    by_cases hlk : k < body.length
    · obtain ⟨d, hd⟩ := uget hlk
      have hsy := atmC_at hd
      have hdl := HB.out d (List.mem_of_getElem? hd)
      have HD := Lib.hid hd
      clear hd
      obtain ⟨cn, cr, cts⟩ := d
      simp only at hdl
      have hlc : (cts.map trmC).length = cts.length := by simp
      (repeat' (first | refine Ctl ?_ | ((with_reducible refine Kof.use hK ?_); clear hK hE K E) | ((with_reducible refine Eof.use hE ?_); (try clear hK hE K E)) | ((with_reducible refine Kof.use hKh ?_); clear hKh Kh) | ((with_reducible refine Kof.use hKb (P_next ?_)); clear hKb Kb) | (with_reducible refine G_plan 12 [([0, 1, 2, 3, 4, 5, 6, 7, 8, 9, 10, 11, 12, 13, 14, 15, 16, 17, 18, 19, 20, 21, 22, 23, 24], 25, [[0, 1, 2, 3, 4, 5, 6, 7, 8, 9, 10, 11, 12, 13, 14, 15, 16, 17, 18, 19, 20, 21, 22, 23, 24]])] [] hQe fun K E hK hE => ?_) | ((with_reducible refine W_cond (fun h => ?_) (fun h => ?_)) <;> (try (exfalso; first | assumption | omega))) | ((first | (with_reducible first | refine G_region fun K E hK hE => ?_ | refine W_if ?_ | refine W_ifS ?_ | refine P_heads fun Kh hKh => ?_ | refine P_fin fun Kh hKh => ?_ | refine P_each fun Kb hKb => ?_ | refine W_and ?_) | ((with_reducible refine W_fresh (fun b hb => ?_)); (repeat (obtain ⟨_, hb⟩ := hb))) | ((with_reducible refine W_gd (fun h => ?_) (fun h => ?_)) <;> (try (exfalso; first | assumption | omega)))) <;> (try simp (disch := first | assumption | omega) only [go_sem, seval, hla, hlb, hsx, hsy, trmC, atmC, hlc, *]))))
      refine G_loop (fun m3 env s3 => ∃ (j : Nat) (w : Bool), j ≤ cts.length ∧ m3 + j = cts.length ∧ s3 = s2 ∧ env 2 = .ptr br 0 ∧ env 3 = .ptr ba 0 ∧ env 5 = .int .i64 i ∧ env 6 = .bool w ∧ env 7 = .int .i64 k ∧ env 8 = .int .i64 j ∧ Hid (w = ((!tv || givenB (body.take k) tn) || (!cn && (cts.take j).any fun t => t.var && decide (t.nm = tn))))) cts.length ?_ ?_
      · exact ⟨_, Fg.refl _, 0, _, by omega, by omega, rfl, z_sl, z_sl, z_sl, z_sr, z_sl, z_sl, Lib.hid (by rw [HK.out]; simp)⟩
      clear e2 e3 e5 e6 e7 env HK w
      rintro m3 env s3 ⟨j, w, hj, hm3, rfl, e2, e3, e5, e6, e7, e8, HJ⟩
      by_cases hlj : j < cts.length
      · obtain ⟨u, hu⟩ := uget hlj
        have hsz := trmC_at hu
        have HU := Lib.hid hu
        clear hu
        obtain ⟨uv, un, uz⟩ := u
        have hJ := HJ.out
        have hspec : ((!tv || givenB (body.take k) tn) || (!cn && (cts.take (j + 1)).any fun t => t.var && decide (t.nm = tn))) = (w || (!cn && (uv && decide (un = tn)))) := by
          rw [any_take HU.out, hJ]
          cases (!tv || givenB (body.take k) tn) <;> cases cn <;> simp
        have HS := Lib.hid hspec
        clear hJ hspec HJ
        cases w <;> cases cn <;> cases uv
        all_goals
          (repeat' (first | refine Ctl ?_ | ((with_reducible refine Kof.use hK ?_); clear hK hE K E) | ((with_reducible refine Eof.use hE ?_); (try clear hK hE K E)) | ((with_reducible refine Kof.use hKh ?_); clear hKh Kh) | ((with_reducible refine Kof.use hKb (P_next ?_)); clear hKb Kb) | (with_reducible refine G_plan 12 [([0, 1, 2, 3, 4, 5, 6, 7, 8, 9, 10, 11, 12, 13, 14, 15, 16, 17, 18, 19, 20, 21, 22, 23, 24], 25, [[0, 1, 2, 3, 4, 5, 6, 7, 8, 9, 10, 11, 12, 13, 14, 15, 16, 17, 18, 19, 20, 21, 22, 23, 24]])] [] hQe fun K E hK hE => ?_) | ((with_reducible refine W_cond (fun h => ?_) (fun h => ?_)) <;> (try (exfalso; first | assumption | omega))) | ((first | (with_reducible first | refine G_region fun K E hK hE => ?_ | refine W_if ?_ | refine W_ifS ?_ | refine P_heads fun Kh hKh => ?_ | refine P_fin fun Kh hKh => ?_ | refine P_each fun Kb hKb => ?_ | refine W_and ?_) | ((with_reducible refine W_fresh (fun b hb => ?_)); (repeat (obtain ⟨_, hb⟩ := hb)); (try (obtain ⟨_, _⟩ := nef hb hSrf; obtain ⟨_, _⟩ := nef hb hSaf))) | ((with_reducible refine W_gd (fun h => ?_) (fun h => ?_)) <;> (try (exfalso; first | assumption | omega)))) <;> (try simp (disch := first | assumption | omega) only [go_sem, seval, hla, hlb, hsx, hsy, hsz, trmC, atmC, hlc, *]))))
        all_goals
          exact ⟨_, Fg.of_set _ hb, m3 - 1, by omega, j + 1, _, by omega, by omega, rfl, z_sl, z_sl, z_sl, z_sr, z_sl, z_sl, Lib.hid (by rw [HS.out]; simp)⟩
      · (repeat' (first | refine Ctl ?_ | ((with_reducible refine Kof.use hK ?_); clear hK hE K E) | ((with_reducible refine Eof.use hE ?_); (try clear hK hE K E)) | ((with_reducible refine Kof.use hKh ?_); clear hKh Kh) | ((with_reducible refine Kof.use hKb (P_next ?_)); clear hKb Kb) | (with_reducible refine G_plan 12 [([0, 1, 2, 3, 4, 5, 6, 7, 8, 9, 10, 11, 12, 13, 14, 15, 16, 17, 18, 19, 20, 21, 22, 23, 24], 25, [[0, 1, 2, 3, 4, 5, 6, 7, 8, 9, 10, 11, 12, 13, 14, 15, 16, 17, 18, 19, 20, 21, 22, 23, 24]])] [] hQe fun K E hK hE => ?_) | ((with_reducible refine W_cond (fun h => ?_) (fun h => ?_)) <;> (try (exfalso; first | assumption | omega))) | ((first | (with_reducible first | refine G_region fun K E hK hE => ?_ | refine W_if ?_ | refine W_ifS ?_ | refine P_heads fun Kh hKh => ?_ | refine P_fin fun Kh hKh => ?_ | refine P_each fun Kb hKb => ?_ | refine W_and ?_) | ((with_reducible refine W_fresh (fun b hb => ?_)); (repeat (obtain ⟨_, hb⟩ := hb))) | ((with_reducible refine W_gd (fun h => ?_) (fun h => ?_)) <;> (try (exfalso; first | assumption | omega)))) <;> (try simp (disch := first | assumption | omega) only [go_sem, seval, hla, hlb, hsx, hsy, trmC, atmC, hlc, *]))))
        refine ⟨_, Fg.refl _, m' - 1, by omega, k + 1, _, by omega, by omega, rfl, z_sl, z_sl, z_sl, z_sr, z_sl, Lib.hid ?_⟩
        have hJ := HJ.out
        rw [show cts.take j = cts from List.take_of_length_le (by omega)] at hJ
        rw [hJ, given_take HD.out]
        simp only [Bool.or_assoc]
    · have hK := HK.out
      rw [List.take_of_length_le (by omega)] at hK
      have HK2 := Lib.hid hK
      clear hK HK
      cases w
      · have hE : W = false := by
          rw [← HW.out]
          unfold withB
          exact uall_not HC.out HK2.out.symm
        subst hE
        (repeat' (first | refine Ctl ?_ | ((with_reducible refine Kof.use hK ?_); clear hK hE K E) | ((with_reducible refine Eof.use hE ?_); (try clear hK hE K E)) | ((with_reducible refine Kof.use hKh ?_); clear hKh Kh) | ((with_reducible refine Kof.use hKb (P_next ?_)); clear hKb Kb) | (with_reducible refine G_plan 12 [([0, 1, 2, 3, 4, 5, 6, 7, 8, 9, 10, 11, 12, 13, 14, 15, 16, 17, 18, 19, 20, 21, 22, 23, 24], 25, [[0, 1, 2, 3, 4, 5, 6, 7, 8, 9, 10, 11, 12, 13, 14, 15, 16, 17, 18, 19, 20, 21, 22, 23, 24]])] [] hQe fun K E hK hE => ?_) | ((with_reducible refine W_cond (fun h => ?_) (fun h => ?_)) <;> (try (exfalso; first | assumption | omega))) | ((first | (with_reducible first | refine G_region fun K E hK hE => ?_ | refine W_if ?_ | refine W_ifS ?_ | refine P_heads fun Kh hKh => ?_ | refine P_fin fun Kh hKh => ?_ | refine P_each fun Kb hKb => ?_ | refine W_and ?_) | ((with_reducible refine W_fresh (fun b hb => ?_)); (repeat (obtain ⟨_, hb⟩ := hb))) | ((with_reducible refine W_gd (fun h => ?_) (fun h => ?_)) <;> (try (exfalso; first | assumption | omega)))) <;> (try simp (disch := first | assumption | omega) only [go_sem, seval, hla, hlb, hsx, trmC, *]))))
        all_goals (first | refine W_ret res29 hQ ?_ | refine W_norm res29 hQ ?_ | refine G_pan hQ ?_)
        all_goals (refine ⟨_, _, Wk.of_eq ?_, ?_, rfl, rfl⟩)
        all_goals first | rfl | exact HF.out
      · (repeat' (first | refine Ctl ?_ | ((with_reducible refine Kof.use hK ?_); clear hK hE K E) | ((with_reducible refine Eof.use hE ?_); (try clear hK hE K E)) | ((with_reducible refine Kof.use hKh ?_); clear hKh Kh) | ((with_reducible refine Kof.use hKb (P_next ?_)); clear hKb Kb) | (with_reducible refine G_plan 12 [([0, 1, 2, 3, 4, 5, 6, 7, 8, 9, 10, 11, 12, 13, 14, 15, 16, 17, 18, 19, 20, 21, 22, 23, 24], 25, [[0, 1, 2, 3, 4, 5, 6, 7, 8, 9, 10, 11, 12, 13, 14, 15, 16, 17, 18, 19, 20, 21, 22, 23, 24]])] [] hQe fun K E hK hE => ?_) | ((with_reducible refine W_cond (fun h => ?_) (fun h => ?_)) <;> (try (exfalso; first | assumption | omega))) | ((first | (with_reducible first | refine G_region fun K E hK hE => ?_ | refine W_if ?_ | refine W_ifS ?_ | refine P_heads fun Kh hKh => ?_ | refine P_fin fun Kh hKh => ?_ | refine P_each fun Kb hKb => ?_ | refine W_and ?_) | ((with_reducible refine W_fresh (fun b hb => ?_)); (repeat (obtain ⟨_, hb⟩ := hb))) | ((with_reducible refine W_gd (fun h => ?_) (fun h => ?_)) <;> (try (exfalso; first | assumption | omega)))) <;> (try simp (disch := first | assumption | omega) only [go_sem, seval, hla, hlb, hsx, trmC, *]))))
        exact ⟨_, Fg.refl _, m - 1, by omega, i + 1, by omega, by omega, rfl, Lib.hid (uall_take HA.out HC.out HK2.out.symm), z_sl, z_sl, z_sl⟩
  · have hA := HA.out
    rw [List.take_of_length_le (by omega)] at hA
    have hE : W = true := by rw [← HW.out]; exact hA
    subst hE
    clear hA HA
    (repeat' (first | refine Ctl ?_ | ((with_reducible refine Kof.use hK ?_); clear hK hE K E) | ((with_reducible refine Eof.use hE ?_); (try clear hK hE K E)) | ((with_reducible refine Kof.use hKh ?_); clear hKh Kh) | ((with_reducible refine Kof.use hKb (P_next ?_)); clear hKb Kb) | (with_reducible refine G_plan 12 [([0, 1, 2, 3, 4, 5, 6, 7, 8, 9, 10, 11, 12, 13, 14, 15, 16, 17, 18, 19, 20, 21, 22, 23, 24], 25, [[0, 1, 2, 3, 4, 5, 6, 7, 8, 9, 10, 11, 12, 13, 14, 15, 16, 17, 18, 19, 20, 21, 22, 23, 24]])] [] hQe fun K E hK hE => ?_) | ((with_reducible refine W_cond (fun h => ?_) (fun h => ?_)) <;> (try (exfalso; first | assumption | omega))) | ((first | (with_reducible first | refine G_region fun K E hK hE => ?_ | refine W_if ?_ | refine W_ifS ?_ | refine P_heads fun Kh hKh => ?_ | refine P_fin fun Kh hKh => ?_ | refine P_each fun Kb hKb => ?_ | refine W_and ?_) | ((with_reducible refine W_fresh (fun b hb => ?_)); (repeat (obtain ⟨_, hb⟩ := hb))) | ((with_reducible refine W_gd (fun h => ?_) (fun h => ?_)) <;> (try (exfalso; first | assumption | omega)))) <;> (try simp (disch := first | assumption | omega) only [go_sem, seval, hla, hlb, *]))))
    all_goals (first | refine W_ret res29 hQ ?_ | refine W_norm res29 hQ ?_ | refine G_pan hQ ?_)
    all_goals (refine ⟨_, _, Wk.of_eq ?_, ?_, rfl, rfl⟩)
    all_goals first | rfl | exact HF.out
end Go.Proofs.YtdibndmkeipgbaaGreatDoor
