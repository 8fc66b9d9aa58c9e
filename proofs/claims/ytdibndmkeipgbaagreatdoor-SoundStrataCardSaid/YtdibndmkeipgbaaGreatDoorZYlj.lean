/- What is proved: What package sound's atom hands back. Conditions: what fits a memory; What package sound's scope hands back. Conditions: what fits a memory. Conditions: those that stand in the statements. -/
import Derived.Test.YtdibndmkeipgbaaGreatDoorZYjj
import Derived.Test.YtdibndmkeipgbaaGreatDoorZPk
set_option linter.unusedSimpArgs false
set_option linter.unusedVariables false
set_option maxRecDepth 100000
namespace Go.Proofs.YtdibndmkeipgbaaGreatDoor
open Go.RowKit

def atA (vs : List (List UInt8)) : List (List UInt8 × Int) := pairsA (fun v : List UInt8 => v) (fun i _ => (i : Int)) 0 vs
theorem atA_lk {vs : List (List UInt8)} (n : List UInt8) : lkA n (atA vs) = Option.map (fun i : Nat => (i : Int)) (ixT n vs) := by
  unfold atA
  rw [lkA_pairs, List.map_id']
  cases h : ixT n vs with
  | none => rfl
  | some j => simp [ixT_lt h]
theorem atA_new {vs : List (List UInt8)} {n : List UInt8} (h : ixT n vs = none) : ptA n (vs.length : Int) (atA vs) = atA (vs ++ [n]) := by
  have hn : n ∉ vs := ixT_none.1 h
  unfold atA
  rw [ptA_new (by rw [pairsA_keys, List.map_id']; exact hn)]
  have : ∀ (i : Nat) (l : List (List UInt8)), pairsA (fun v : List UInt8 => v) (fun i _ => ((i : Nat) : Int)) i (l ++ [n]) = pairsA (fun v : List UInt8 => v) (fun i _ => ((i : Nat) : Int)) i l ++ [(n, ((i + l.length : Nat) : Int))] := by
    intro i l
    induction l generalizing i with
    | nil => rfl
    | cons a l ih =>
      simp only [List.cons_append, pairsA, ih (i + 1), List.length_cons]
      rw [show i + 1 + l.length = i + (l.length + 1) by omega]
  rw [this 0 vs, Nat.zero_add]
abbrev rsSc : List (Nat × TypeId × Nat) := [(0, 9, 1), (1, 9, 1)]
def Scm (t : St) (xb bm : Nat) (X : Scp) : St := (t.set bm (.map (mpV encI (atA X.vs)))).set xb (.pk 68 [.lst (strs X.vs) .no, .lst (strs X.ds) .no, .mp bm] rsSc)
def WfS (X : Scp) : Prop := X.ds.length = X.vs.length
section
variable {t : St} {xb bm b : Nat} {X : Scp}
theorem Scm_at : (Scm t xb bm X) xb = .pk 68 [.lst (strs X.vs) .no, .lst (strs X.ds) .no, .mp bm] rsSc := St.set_same _ _ _
theorem Scm_bm (h : ¬ bm = xb) : (Scm t xb bm X) bm = .map (mpV encI (atA X.vs)) := by unfold Scm; rw [St.set_other _ _ h, St.set_same]
theorem Scm_gt (h : ¬ b = xb) (h2 : ¬ b = bm) : (Scm t xb bm X) b = t b := by unfold Scm; rw [St.set_other _ _ h, St.set_other _ _ h2]
theorem Scm_set {c : Cell} (h : ¬ b = xb) (h2 : ¬ b = bm) : (Scm t xb bm X).set b c = Scm (t.set b c) xb bm X := by
  funext x
  simp only [Scm, St.set]
  by_cases h3 : x = b
  · subst h3; simp [h, h2]
  · simp [h3]
theorem Scm_free : ((Scm t xb bm X) b = .free) = (¬ b = xb ∧ ¬ xb = b ∧ ¬ b = bm ∧ ¬ bm = b ∧ t b = .free) := by
  apply propext
  unfold Scm
  simp only [St.set]
  by_cases h1 : b = xb
  · simp [h1]
  · have h1' : ¬ xb = b := fun e => h1 e.symm
    by_cases h2 : b = bm
    · subst h2; simp [h1, h1']
    · have h2' : ¬ bm = b := fun e => h2 e.symm
      simp [h1, h2, h1', h2']
theorem Fg.scm {t' : St} (h : Fg t t') : Fg (Scm t xb bm X) (Scm t' xb bm X) := Fg.set (Fg.set h _ _) _ _
end
theorem termS_const {dz : List UInt8 → Int} {X : Scp} {n : List UInt8} {k : Int} {d : List UInt8} : termS dz X ⟨false, n, k⟩ d = if dz d ≤ k then .error 123 else .ok X := by simp [termS]
theorem termS_new {dz : List UInt8 → Int} {X : Scp} {n : List UInt8} {k : Int} {d : List UInt8} (h : ixT n X.vs = none) : termS dz X ⟨true, n, k⟩ d = .ok ⟨X.vs ++ [n], X.ds ++ [d]⟩ := by simp [termS, h]
theorem termS_old {dz : List UInt8 → Int} {X : Scp} {n : List UInt8} {k : Int} {d : List UInt8} {i : Nat} (h : ixT n X.vs = some i) : termS dz X ⟨true, n, k⟩ d = if X.ds[i]? = some d then .ok X else .error 124 := by simp [termS, h]
/-- What taking an atom's variables comes to. -/
def AtQ (t : St) (xb bm : Nat) (r : Except Int Scp) : SEnd → St → Prop := fun w u =>
  match r with
  | .ok Y => w = .ret (.int .i64 0) ∧ u = Scm t xb bm Y ∧ WfS Y
  | .error e => w = .ret (.int .i64 e) ∧ e ≠ 0 ∧ ∃ Y, u = Scm t xb bm Y
theorem termS_err {dz : List UInt8 → Int} {X : Scp} {a : Trm} {d : List UInt8} {e : Int} (h : termS dz X a d = .error e) : e ≠ 0 := by
  unfold termS at h
  split at h
  · split at h
    · injection h with h; subst h; decide
    · cases h
  · split at h
    · cases h
    · split at h
      · cases h
      · injection h with h; subst h; decide
attribute [local go_sem] Scm_at Scm_bm Scm_gt Scm_set Scm_free owned_other disown_other
theorem Scm_pack {B : St} {xb bm : Nat} {vs ds : List (List UInt8)} {p1 p2 : Own} {M : Cell} (n1 : NotOwn p1 xb) (n2 : NotOwn p2 xb) (m1 : NotOwn p1 bm) (m2 : NotOwn p2 bm) (h1 : OwnOk B p1 vs.length) (h2 : OwnOk (B.own p1 9 1 vs.length) p2 ds.length) :
    GS ((((B.own p1 9 1 vs.length).own p2 9 1 ds.length).set bm M).set xb (.pk 68 [.lst (strs vs) p1, .lst (strs ds) p2, .mp bm] [])) ((B.set bm M).set xb (.pk 68 [.lst (strs vs) .no, .lst (strs ds) .no, .mp bm] rsSc)) := by
  have l1 : (strs vs).length = vs.length := by simp [strs]
  have l2 : (strs ds).length = ds.length := by simp [strs]
  have g1 := GS.pack (i := 1) (l := strs ds) (o := p2) (T' := 9) (sz := 1) (rs' := [(1, 9, 1)]) (St.set_same (((B.own p1 9 1 vs.length).own p2 9 1 ds.length).set bm M) xb (.pk 68 [.lst (strs vs) p1, .lst (strs ds) p2, .mp bm] [])) rfl (by rw [owned_set n2, owned_set m2, l2, owned_own h2]; trivial) (by simp)
  rw [disown_set n2, disown_set m2, disown_own h2, St.set_set] at g1
  have g2 := GS.pack (i := 0) (l := strs vs) (o := p1) (T' := 9) (sz := 1) (rs' := rsSc) (St.set_same ((B.own p1 9 1 vs.length).set bm M) xb (.pk 68 [.lst (strs vs) p1, .lst (strs ds) .no, .mp bm] [(1, 9, 1)])) rfl (by rw [owned_set n1, owned_set m1, l1, owned_own h1]; trivial) (by simp)
  rw [disown_set n1, disown_set m1, disown_own h1, St.set_set] at g2
  exact g1.trans g2
set_option maxHeartbeats 8000000 in
theorem Satom_S (t : St) (p b1 b2 xb bm : Nat) (x : Pgm) (X : Scp) (a : Atm) (o0 : Own) (hp : PrAt t p b1 b2 x) (hxb : t xb = .free) (hbm : t bm = .free) (hne : ¬ bm = xb) (hW : WfS X) (ha : a.ts.length ≤ 100000) (hX : X.vs.length ≤ 10000000) :
    SCalls Tryz.prog 31 [.ptr p 0, .ptr xb 0, .agg [.bool a.not, .str a.rel, .lst (a.ts.map trmC) o0]] (Scm t xb bm X) (AtQ t xb bm (atomS x X a)) := by
  obtain ⟨an, ar, ats⟩ := a
  obtain ⟨xds, xcs, xrs⟩ := x
  obtain ⟨hp0, h10, h20⟩ := hp
  simp only at ha hp0 h10 h20
  have hpf : t p ≠ .free := by rw [hp0]; simp
  have h1f : t b1 ≠ .free := by rw [h10]; simp
  have h2f : t b2 ≠ .free := by rw [h20]; simp
  obtain ⟨q1, q2⟩ := nef hxb hpf
  obtain ⟨q3, q4⟩ := nef hxb h1f
  obtain ⟨q5, q6⟩ := nef hxb h2f
  obtain ⟨q7, q8⟩ := nef hbm hpf
  obtain ⟨q9, q10⟩ := nef hbm h1f
  obtain ⟨q11, q12⟩ := nef hbm h2f
  have hne2 : ¬ xb = bm := fun e => hne e.symm
  have hrl := rlA_lk (cs := xcs) ar
  generalize hR : atomS ⟨xds, xcs, xrs⟩ X ⟨an, ar, ats⟩ = R
  unfold atomS at hR
  simp only at hR
  cases hk : relI xcs ar with
  | none =>
    rw [hk] at hR hrl
    simp only [Option.map_none] at hR hrl
    subst hR
    refine G_enter Tryz.func31 rfl Tryz.ntmps31 rfl fun Q hQ hQe => ?_
    (repeat' (first | refine Ctl ?_ | ((with_reducible refine Kof.use hK ?_); clear hK hE K E) | ((with_reducible refine Eof.use hE ?_); (try clear hK hE K E)) | ((with_reducible refine Kof.use hKh ?_); clear hKh Kh) | ((with_reducible refine Kof.use hKb (P_next ?_)); clear hKb Kb) | (with_reducible first | refine G_plan 1 [] [0, 1, 2, 3, 4, 5, 6, 7, 8, 9, 10, 11] hQe fun K E hK hE => ?_ | refine G_plan 10 [] [0, 1, 2, 3, 4, 5, 6, 7, 8, 9, 10, 11] hQe fun K E hK hE => ?_ | refine G_plan 11 [] [0, 1, 2, 3, 4, 5, 6, 7, 8, 9, 10, 11, 12, 13, 14, 15, 16, 17] hQe fun K E hK hE => ?_ | refine G_plan 15 [([0, 1, 2, 3, 4, 5, 6, 7, 8, 9, 10], 11, [[]])] [] hQe fun K E hK hE => ?_ | refine G_plan 16 [([0, 1, 2, 3, 4, 5, 6, 7], 8, [[0]]), ([9, 10], 11, [[], []])] [] hQe fun K E hK hE => ?_ | refine G_plan 17 [([0, 1, 2, 3, 4, 5, 6, 7, 8, 9], 10, [[0]]), ([11, 12], 13, [[], []])] [] hQe fun K E hK hE => ?_ | refine G_plan 18 [] [0, 1, 2, 3, 4, 5, 6, 7, 8, 9, 10, 11, 12] hQe fun K E hK hE => ?_) | ((with_reducible refine W_cond (fun h => ?_) (fun h => ?_)) <;> (try (exfalso; first | assumption | omega))) | ((first | (with_reducible first | refine G_region fun K E hK hE => ?_ | refine W_if ?_ | refine W_ifS ?_ | refine P_heads fun Kh hKh => ?_ | refine P_fin fun Kh hKh => ?_ | refine P_each fun Kb hKb => ?_ | refine W_and ?_) | ((with_reducible refine W_fresh (fun b hb => ?_)); (repeat (obtain ⟨_, hb⟩ := hb)); (try (obtain ⟨_, _⟩ := nef hb hpf; obtain ⟨_, _⟩ := nef hb h1f; obtain ⟨_, _⟩ := nef hb h2f))) | ((with_reducible refine W_app (fun o2 ho => ?_)); (try simp (disch := assumption) only [disown_set, disown_own, ownok_o, ownok_m, List.length_map, List.length_cons, List.length_nil, Nat.zero_add, hrl, Option.getD_none, Option.isSome_none] at ho); (repeat (obtain ⟨_, ho⟩ := ho))) | ((with_reducible refine W_gd (fun h => ?_) (fun h => ?_)) <;> (try (exfalso; first | assumption | omega)))) <;> (try simp (disch := first | assumption | omega) only [go_sem, seval, hrl, Option.getD_none, Option.isSome_none, *]))))
    all_goals (first | refine W_ret res31 hQ ?_ | refine W_norm res31 hQ ?_ | refine G_pan hQ ?_)
    exact ⟨_, Scm t xb bm X, Wk.refl _, (z_fg : Fg _ _), rfl, by decide, X, rfl⟩
  | some k =>
    rw [hk] at hR hrl
    simp only [Option.map_some] at hR hrl
    obtain ⟨dc, hdc, _⟩ : ∃ dc, xcs[k]? = some dc ∧ True := by
      have := ixT_lt hk
      rw [List.getElem?_map] at this
      obtain ⟨dc, h, _⟩ := Option.map_eq_some_iff.1 this
      exact ⟨dc, h, trivial⟩
    rw [hdc] at hR
    simp only at hR
    have hkl := (List.getElem?_eq_some_iff.1 hdc).1
    have hsd := dclC_at hdc
    obtain ⟨dn, dd⟩ := dc
    simp only at hR
    have hsl : (strs dd).length = dd.length := by simp [strs]
    clear hk hdc
    by_cases hlen : ats.length = dd.length
    · rw [if_neg (by simpa using hlen)] at hR
      have hli : ((ats.length : Int) = (dd.length : Int)) = True := eq_true (by omega)
      refine G_enter Tryz.func31 rfl Tryz.ntmps31 rfl fun Q hQ hQe => ?_
      (repeat' (first | refine Ctl ?_ | ((with_reducible refine Kof.use hK ?_); clear hK hE K E) | ((with_reducible refine Eof.use hE ?_); (try clear hK hE K E)) | ((with_reducible refine Kof.use hKh ?_); clear hKh Kh) | ((with_reducible refine Kof.use hKb (P_next ?_)); clear hKb Kb) | (with_reducible first | refine G_plan 1 [] [0, 1, 2, 3, 4, 5, 6, 7, 8, 9, 10, 11] hQe fun K E hK hE => ?_ | refine G_plan 10 [] [0, 1, 2, 3, 4, 5, 6, 7, 8, 9, 10, 11] hQe fun K E hK hE => ?_ | refine G_plan 11 [] [0, 1, 2, 3, 4, 5, 6, 7, 8, 9, 10, 11, 12, 13, 14, 15, 16, 17] hQe fun K E hK hE => ?_ | refine G_plan 15 [([0, 1, 2, 3, 4, 5, 6, 7, 8, 9, 10], 11, [[]])] [] hQe fun K E hK hE => ?_ | refine G_plan 16 [([0, 1, 2, 3, 4, 5, 6, 7], 8, [[0]]), ([9, 10], 11, [[], []])] [] hQe fun K E hK hE => ?_ | refine G_plan 17 [([0, 1, 2, 3, 4, 5, 6, 7, 8, 9], 10, [[0]]), ([11, 12], 13, [[], []])] [] hQe fun K E hK hE => ?_ | refine G_plan 18 [] [0, 1, 2, 3, 4, 5, 6, 7, 8, 9, 10, 11, 12] hQe fun K E hK hE => ?_) | ((with_reducible refine W_cond (fun h => ?_) (fun h => ?_)) <;> (try (exfalso; first | assumption | omega))) | ((first | (with_reducible first | refine G_region fun K E hK hE => ?_ | refine W_if ?_ | refine W_ifS ?_ | refine P_heads fun Kh hKh => ?_ | refine P_fin fun Kh hKh => ?_ | refine P_each fun Kb hKb => ?_ | refine W_and ?_) | ((with_reducible refine W_fresh (fun b hb => ?_)); (repeat (obtain ⟨_, hb⟩ := hb)); (try (obtain ⟨_, _⟩ := nef hb hpf; obtain ⟨_, _⟩ := nef hb h1f; obtain ⟨_, _⟩ := nef hb h2f))) | ((with_reducible refine W_app (fun o2 ho => ?_)); (try simp (disch := assumption) only [disown_set, disown_own, ownok_o, ownok_m, List.length_map, List.length_cons, List.length_nil, Nat.zero_add, hrl, hsd, dclC, hsl, List.length_map, Option.getD_some, Option.isSome_some] at ho); (repeat (obtain ⟨_, ho⟩ := ho))) | ((with_reducible refine W_gd (fun h => ?_) (fun h => ?_)) <;> (try (exfalso; first | assumption | omega)))) <;> (try simp (disch := first | assumption | omega) only [go_sem, seval, hrl, hsd, dclC, hsl, List.length_map, Option.getD_some, Option.isSome_some, *]))))
      have hp1 : (t.set b (.obj 47 [.bool an, .str ar, .lst (ats.map trmC) o0])) p = .obj 101 [.lst (xds.map dmC) .no, .lst (xcs.map dclC) .no, .lst (xrs.map rulC) .no, .mp b1, .mp b2] := by rw [St.set_other _ _ (by assumption)]; exact hp0
      have h11 : (t.set b (.obj 47 [.bool an, .str ar, .lst (ats.map trmC) o0])) b1 = .map (mpV encI (szA xds)) := by rw [St.set_other _ _ (by assumption)]; exact h10
      have h21 : (t.set b (.obj 47 [.bool an, .str ar, .lst (ats.map trmC) o0])) b2 = .map (mpV encI (rlA xcs)) := by rw [St.set_other _ _ (by assumption)]; exact h20
      have ha1 : (t.set b (.obj 47 [.bool an, .str ar, .lst (ats.map trmC) o0])) b = .obj 47 [.bool an, .str ar, .lst (ats.map trmC) o0] := St.set_same _ _ _
      have hxb1 : (t.set b (.obj 47 [.bool an, .str ar, .lst (ats.map trmC) o0])) xb = .free := by rw [St.set_other _ _ (by assumption)]; exact hxb
      have hbm1 : (t.set b (.obj 47 [.bool an, .str ar, .lst (ats.map trmC) o0])) bm = .free := by rw [St.set_other _ _ (by assumption)]; exact hbm
      have hF0 : Fg (t.set b (.obj 47 [.bool an, .str ar, .lst (ats.map trmC) o0])) t := Fg.of_set _ hb
      generalize t.set b (.obj 47 [.bool an, .str ar, .lst (ats.map trmC) o0]) = B at *
      have HF := Lib.hid hF0
      clear hp0 h10 h20 hpf h1f h2f hxb hbm hb hF0 hrl hsd hkl hli
      have hpf : B p ≠ .free := by rw [hp1]; simp
      have h1f : B b1 ≠ .free := by rw [h11]; simp
      have h2f : B b2 ≠ .free := by rw [h21]; simp
      have haf : B b ≠ .free := by rw [ha1]; simp
      obtain ⟨bA, hbA⟩ : ∃ z, z = b := ⟨_, rfl⟩
      subst hbA
      refine G_loopS (fun m env s' => ∃ (i : Nat) (Y : Scp), i ≤ ats.length ∧ m + i = ats.length ∧ (WfS Y ∧ Y.vs.length ≤ X.vs.length + i ∧ termsS (domZ xds) Y (ats.drop i) (dd.drop i) = R) ∧ s' = Scm B xb bm Y ∧
        env 0 = .ptr p 0 ∧ env 1 = .ptr xb 0 ∧ env 5 = .ptr bA 0 ∧ env 9 = .lst (strs dd) .no ∧ env 42 = .lst (ats.map trmC) o0 ∧ env 43 = .int .i64 ats.length ∧ env 44 = .int .i64 i) ats.length ?_ ?_
      · exact ⟨_, GS.refl _, 0, X, by omega, by omega, ⟨hW, by omega, hR⟩, rfl, z_sl, z_sl, z_sl, z_sl, z_sl, z_sl, z_sl⟩
      · clear hW hR
        rintro m env s' ⟨i, Y, hi, hm, ⟨hWY, hYl, hRY⟩, rfl, e0, e1, e5, e9, e42, e43, e44⟩
        by_cases hlt : i < ats.length
        · obtain ⟨c, hc⟩ := uget hlt
          obtain ⟨d, hd⟩ := uget (l := dd) (i := i) (by omega)
          have hsx := trmC_at hc
          have hsy := strs_at hd
          have hlk := szA_lk (ds := xds) d
          rw [List.drop_eq_getElem_cons hlt, List.drop_eq_getElem_cons (l := dd) (by omega), show ats[i] = c by rw [List.getElem?_eq_getElem hlt] at hc; injection hc, show dd[i]'(by omega) = d by rw [List.getElem?_eq_getElem (by omega)] at hd; injection hd] at hRY
          simp only [termsS] at hRY
          have HRY := Lib.hid hRY
          clear hc hd hRY
          obtain ⟨cv, cn, cz⟩ := c
          have hat := atA_lk (vs := Y.vs) cn
          cases cv
          · rw [termS_const] at HRY
            clear hat
            by_cases hz : domZ xds d ≤ cz
            · rw [if_pos hz] at HRY
              (repeat' (first | refine Ctl ?_ | ((with_reducible refine Kof.use hK ?_); clear hK hE K E) | ((with_reducible refine Eof.use hE ?_); (try clear hK hE K E)) | ((with_reducible refine Kof.use hKh ?_); clear hKh Kh) | ((with_reducible refine Kof.use hKb (P_next ?_)); clear hKb Kb) | (with_reducible first | refine G_plan 1 [] [0, 1, 2, 3, 4, 5, 6, 7, 8, 9, 10, 11] hQe fun K E hK hE => ?_ | refine G_plan 10 [] [0, 1, 2, 3, 4, 5, 6, 7, 8, 9, 10, 11] hQe fun K E hK hE => ?_ | refine G_plan 11 [] [0, 1, 2, 3, 4, 5, 6, 7, 8, 9, 10, 11, 12, 13, 14, 15, 16, 17] hQe fun K E hK hE => ?_ | refine G_plan 15 [([0, 1, 2, 3, 4, 5, 6, 7, 8, 9, 10], 11, [[]])] [] hQe fun K E hK hE => ?_ | refine G_plan 16 [([0, 1, 2, 3, 4, 5, 6, 7], 8, [[0]]), ([9, 10], 11, [[], []])] [] hQe fun K E hK hE => ?_ | refine G_plan 17 [([0, 1, 2, 3, 4, 5, 6, 7, 8, 9], 10, [[0]]), ([11, 12], 13, [[], []])] [] hQe fun K E hK hE => ?_ | refine G_plan 18 [] [0, 1, 2, 3, 4, 5, 6, 7, 8, 9, 10, 11, 12] hQe fun K E hK hE => ?_) | ((with_reducible refine W_cond (fun h => ?_) (fun h => ?_)) <;> (try (exfalso; first | assumption | omega))) | ((first | (with_reducible first | refine G_region fun K E hK hE => ?_ | refine W_if ?_ | refine W_ifS ?_ | refine P_heads fun Kh hKh => ?_ | refine P_fin fun Kh hKh => ?_ | refine P_each fun Kb hKb => ?_ | refine W_and ?_) | ((with_reducible refine W_fresh (fun b hb => ?_)); (repeat (obtain ⟨_, hb⟩ := hb)); (try (obtain ⟨_, _⟩ := nef hb hpf; obtain ⟨_, _⟩ := nef hb h1f; obtain ⟨_, _⟩ := nef hb h2f; obtain ⟨_, _⟩ := nef hb haf))) | ((with_reducible refine W_app (fun o2 ho => ?_)); (try simp (disch := assumption) only [disown_set, disown_own, ownok_o, ownok_m, List.length_map, List.length_cons, List.length_nil, Nat.zero_add, hsx, trmC, hsy, hlk, hsl, List.length_map] at ho); (repeat (obtain ⟨_, ho⟩ := ho))) | ((with_reducible refine W_gd (fun h => ?_) (fun h => ?_)) <;> (try (exfalso; first | assumption | omega)))) <;> (try simp (disch := first | assumption | omega) only [go_sem, seval, hsx, trmC, hsy, hlk, hsl, List.length_map, *]))))
              all_goals (first | refine W_ret res31 hQ ?_ | refine W_norm res31 hQ ?_ | refine G_pan hQ ?_)
              rw [← show _ = R from HRY]
              exact ⟨_, Scm t xb bm Y, Wk.refl _, Fg.scm ((Fg.of_set _ hb).trans HF.out), rfl, by decide, Y, rfl⟩
            · rw [if_neg hz] at HRY
              (repeat' (first | refine Ctl ?_ | ((with_reducible refine Kof.use hK ?_); clear hK hE K E) | ((with_reducible refine Eof.use hE ?_); (try clear hK hE K E)) | ((with_reducible refine Kof.use hKh ?_); clear hKh Kh) | ((with_reducible refine Kof.use hKb (P_next ?_)); clear hKb Kb) | (with_reducible first | refine G_plan 1 [] [0, 1, 2, 3, 4, 5, 6, 7, 8, 9, 10, 11] hQe fun K E hK hE => ?_ | refine G_plan 10 [] [0, 1, 2, 3, 4, 5, 6, 7, 8, 9, 10, 11] hQe fun K E hK hE => ?_ | refine G_plan 11 [] [0, 1, 2, 3, 4, 5, 6, 7, 8, 9, 10, 11, 12, 13, 14, 15, 16, 17] hQe fun K E hK hE => ?_ | refine G_plan 15 [([0, 1, 2, 3, 4, 5, 6, 7, 8, 9, 10], 11, [[]])] [] hQe fun K E hK hE => ?_ | refine G_plan 16 [([0, 1, 2, 3, 4, 5, 6, 7], 8, [[0]]), ([9, 10], 11, [[], []])] [] hQe fun K E hK hE => ?_ | refine G_plan 17 [([0, 1, 2, 3, 4, 5, 6, 7, 8, 9], 10, [[0]]), ([11, 12], 13, [[], []])] [] hQe fun K E hK hE => ?_ | refine G_plan 18 [] [0, 1, 2, 3, 4, 5, 6, 7, 8, 9, 10, 11, 12] hQe fun K E hK hE => ?_) | ((with_reducible refine W_cond (fun h => ?_) (fun h => ?_)) <;> (try (exfalso; first | assumption | omega))) | ((first | (with_reducible first | refine G_region fun K E hK hE => ?_ | refine W_if ?_ | refine W_ifS ?_ | refine P_heads fun Kh hKh => ?_ | refine P_fin fun Kh hKh => ?_ | refine P_each fun Kb hKb => ?_ | refine W_and ?_) | ((with_reducible refine W_fresh (fun b hb => ?_)); (repeat (obtain ⟨_, hb⟩ := hb)); (try (obtain ⟨_, _⟩ := nef hb hpf; obtain ⟨_, _⟩ := nef hb h1f; obtain ⟨_, _⟩ := nef hb h2f; obtain ⟨_, _⟩ := nef hb haf))) | ((with_reducible refine W_app (fun o2 ho => ?_)); (try simp (disch := assumption) only [disown_set, disown_own, ownok_o, ownok_m, List.length_map, List.length_cons, List.length_nil, Nat.zero_add, hsx, trmC, hsy, hlk, hsl, List.length_map] at ho); (repeat (obtain ⟨_, ho⟩ := ho))) | ((with_reducible refine W_gd (fun h => ?_) (fun h => ?_)) <;> (try (exfalso; first | assumption | omega)))) <;> (try simp (disch := first | assumption | omega) only [go_sem, seval, hsx, trmC, hsy, hlk, hsl, List.length_map, *]))))
              exact ⟨Scm B xb bm Y, GS.of_fg (Fg.scm (Fg.of_set _ hb)), m - 1, by omega, i + 1, Y, by omega, by omega, ⟨hWY, by omega, HRY.out⟩, rfl, z_sl, z_sl, z_sl, z_sl, z_sl, z_sl, z_sl⟩
          · cases hix : ixT cn Y.vs with
            | some v =>
              rw [hix] at hat
              simp only [Option.map_some] at hat
              have hvl : v < Y.vs.length := (List.getElem?_eq_some_iff.1 (ixT_lt hix)).1
              obtain ⟨dv, hdv⟩ := uget (l := Y.ds) (i := v) (by rw [hWY]; exact hvl)
              have hsv := strs_at hdv
              rw [termS_old hix, hdv] at HRY
              by_cases hdd : dv = d
              · rw [if_pos (by rw [hdd])] at HRY
                subst hdd
                clear hix hdv
                (repeat' (first | refine Ctl ?_ | ((with_reducible refine Kof.use hK ?_); clear hK hE K E) | ((with_reducible refine Eof.use hE ?_); (try clear hK hE K E)) | ((with_reducible refine Kof.use hKh ?_); clear hKh Kh) | ((with_reducible refine Kof.use hKb (P_next ?_)); clear hKb Kb) | (with_reducible first | refine G_plan 1 [] [0, 1, 2, 3, 4, 5, 6, 7, 8, 9, 10, 11] hQe fun K E hK hE => ?_ | refine G_plan 10 [] [0, 1, 2, 3, 4, 5, 6, 7, 8, 9, 10, 11] hQe fun K E hK hE => ?_ | refine G_plan 11 [] [0, 1, 2, 3, 4, 5, 6, 7, 8, 9, 10, 11, 12, 13, 14, 15, 16, 17] hQe fun K E hK hE => ?_ | refine G_plan 15 [([0, 1, 2, 3, 4, 5, 6, 7, 8, 9, 10], 11, [[]])] [] hQe fun K E hK hE => ?_ | refine G_plan 16 [([0, 1, 2, 3, 4, 5, 6, 7], 8, [[0]]), ([9, 10], 11, [[], []])] [] hQe fun K E hK hE => ?_ | refine G_plan 17 [([0, 1, 2, 3, 4, 5, 6, 7, 8, 9], 10, [[0]]), ([11, 12], 13, [[], []])] [] hQe fun K E hK hE => ?_ | refine G_plan 18 [] [0, 1, 2, 3, 4, 5, 6, 7, 8, 9, 10, 11, 12] hQe fun K E hK hE => ?_) | ((with_reducible refine W_cond (fun h => ?_) (fun h => ?_)) <;> (try (exfalso; first | assumption | omega))) | ((first | (with_reducible first | refine G_region fun K E hK hE => ?_ | refine W_if ?_ | refine W_ifS ?_ | refine P_heads fun Kh hKh => ?_ | refine P_fin fun Kh hKh => ?_ | refine P_each fun Kb hKb => ?_ | refine W_and ?_) | ((with_reducible refine W_fresh (fun b hb => ?_)); (repeat (obtain ⟨_, hb⟩ := hb)); (try (obtain ⟨_, _⟩ := nef hb hpf; obtain ⟨_, _⟩ := nef hb h1f; obtain ⟨_, _⟩ := nef hb h2f; obtain ⟨_, _⟩ := nef hb haf))) | ((with_reducible refine W_app (fun o2 ho => ?_)); (try simp (disch := assumption) only [disown_set, disown_own, ownok_o, ownok_m, List.length_map, List.length_cons, List.length_nil, Nat.zero_add, hsx, trmC, hsy, hat, hsv, hsl, List.length_map, Option.getD_some, Option.isSome_some] at ho); (repeat (obtain ⟨_, ho⟩ := ho))) | ((with_reducible refine W_gd (fun h => ?_) (fun h => ?_)) <;> (try (exfalso; first | assumption | omega)))) <;> (try simp (disch := first | assumption | omega) only [go_sem, seval, hsx, trmC, hsy, hat, hsv, hsl, List.length_map, Option.getD_some, Option.isSome_some, *]))))
                exact ⟨Scm B xb bm Y, GS.of_fg (Fg.scm (Fg.of_set _ hb)), m - 1, by omega, i + 1, Y, by omega, by omega, ⟨hWY, by omega, HRY.out⟩, rfl, z_sl, z_sl, z_sl, z_sl, z_sl, z_sl, z_sl⟩
              · rw [if_neg (by simpa using hdd)] at HRY
                clear hix hdv
                (repeat' (first | refine Ctl ?_ | ((with_reducible refine Kof.use hK ?_); clear hK hE K E) | ((with_reducible refine Eof.use hE ?_); (try clear hK hE K E)) | ((with_reducible refine Kof.use hKh ?_); clear hKh Kh) | ((with_reducible refine Kof.use hKb (P_next ?_)); clear hKb Kb) | (with_reducible first | refine G_plan 1 [] [0, 1, 2, 3, 4, 5, 6, 7, 8, 9, 10, 11] hQe fun K E hK hE => ?_ | refine G_plan 10 [] [0, 1, 2, 3, 4, 5, 6, 7, 8, 9, 10, 11] hQe fun K E hK hE => ?_ | refine G_plan 11 [] [0, 1, 2, 3, 4, 5, 6, 7, 8, 9, 10, 11, 12, 13, 14, 15, 16, 17] hQe fun K E hK hE => ?_ | refine G_plan 15 [([0, 1, 2, 3, 4, 5, 6, 7, 8, 9, 10], 11, [[]])] [] hQe fun K E hK hE => ?_ | refine G_plan 16 [([0, 1, 2, 3, 4, 5, 6, 7], 8, [[0]]), ([9, 10], 11, [[], []])] [] hQe fun K E hK hE => ?_ | refine G_plan 17 [([0, 1, 2, 3, 4, 5, 6, 7, 8, 9], 10, [[0]]), ([11, 12], 13, [[], []])] [] hQe fun K E hK hE => ?_ | refine G_plan 18 [] [0, 1, 2, 3, 4, 5, 6, 7, 8, 9, 10, 11, 12] hQe fun K E hK hE => ?_) | ((with_reducible refine W_cond (fun h => ?_) (fun h => ?_)) <;> (try (exfalso; first | assumption | omega))) | ((first | (with_reducible first | refine G_region fun K E hK hE => ?_ | refine W_if ?_ | refine W_ifS ?_ | refine P_heads fun Kh hKh => ?_ | refine P_fin fun Kh hKh => ?_ | refine P_each fun Kb hKb => ?_ | refine W_and ?_) | ((with_reducible refine W_fresh (fun b hb => ?_)); (repeat (obtain ⟨_, hb⟩ := hb)); (try (obtain ⟨_, _⟩ := nef hb hpf; obtain ⟨_, _⟩ := nef hb h1f; obtain ⟨_, _⟩ := nef hb h2f; obtain ⟨_, _⟩ := nef hb haf))) | ((with_reducible refine W_app (fun o2 ho => ?_)); (try simp (disch := assumption) only [disown_set, disown_own, ownok_o, ownok_m, List.length_map, List.length_cons, List.length_nil, Nat.zero_add, hsx, trmC, hsy, hat, hsv, hsl, List.length_map, Option.getD_some, Option.isSome_some] at ho); (repeat (obtain ⟨_, ho⟩ := ho))) | ((with_reducible refine W_gd (fun h => ?_) (fun h => ?_)) <;> (try (exfalso; first | assumption | omega)))) <;> (try simp (disch := first | assumption | omega) only [go_sem, seval, hsx, trmC, hsy, hat, hsv, hsl, List.length_map, Option.getD_some, Option.isSome_some, *]))))
                all_goals (first | refine W_ret res31 hQ ?_ | refine W_norm res31 hQ ?_ | refine G_pan hQ ?_)
                rw [← show _ = R from HRY]
                exact ⟨_, Scm t xb bm Y, Wk.refl _, Fg.scm ((Fg.of_set _ hb).trans HF.out), rfl, by decide, Y, rfl⟩
            | none =>
              rw [hix] at hat
              simp only [Option.map_none] at hat
              rw [termS_new hix] at HRY
              have hpt := atA_new hix
              have hcl : (strs Y.vs).length = Y.vs.length := by simp [strs]
              have hcd : (strs Y.ds).length = Y.vs.length := by simp only [strs, List.length_map]; exact hWY
              refine Kp_unpk xb 0 (T' := 9) (sz := 1) [(1, 9, 1)] Scm_at rfl (by simp) (by simp) ?_
              intro o1 hO1 hn1
              refine Kp_unpk xb 1 (T' := 9) (sz := 1) [] (St.set_same _ _ _) rfl (by simp) (by simp) ?_
              intro o2 hO2 hn2
              simp only [List.set, hcl, hcd] at hO1 hO2 ⊢
              unfold Scm at hO1 hO2 ⊢
              rw [own_push hn1, St.set_set] at hO2 ⊢
              rw [own_push hn2, St.set_set]
              simp only [ownok_pk, ownok_m] at hO1
              rw [ownok_pk] at hO2
              obtain ⟨_, hn1m, hO1⟩ := hO1
              obtain ⟨_, hO2⟩ := hO2
              rw [own_push hn1m] at hO2 ⊢
              rw [ownok_m] at hO2
              obtain ⟨hn2m, hO2⟩ := hO2
              rw [own_push hn2m]
              have hO2B : OwnOk B o2 Y.vs.length := ownok_in hO2
              have hp2 := hO1.not hpf
              have hp3 := hO1.not h1f
              have hp4 := hO1.not h2f
              have hp5 := hO1.not haf
              have hr2 := hO2B.not hpf
              have hr3 := hO2B.not h1f
              have hr4 := hO2B.not h2f
              have hr5 := hO2B.not haf
              have hvb : Y.vs.length ≤ 20000000 := by omega
              have HPT := Lib.hid hpt
              clear hix hpt
              (repeat' (first | refine Ctl ?_ | ((with_reducible refine Kof.use hK ?_); clear hK hE K E) | ((with_reducible refine Eof.use hE ?_); (try clear hK hE K E)) | ((with_reducible refine Kof.use hKh ?_); clear hKh Kh) | ((with_reducible refine Kof.use hKb (P_next ?_)); clear hKb Kb) | (with_reducible first | refine G_plan 1 [] [0, 1, 2, 3, 4, 5, 6, 7, 8, 9, 10, 11] hQe fun K E hK hE => ?_ | refine G_plan 10 [] [0, 1, 2, 3, 4, 5, 6, 7, 8, 9, 10, 11] hQe fun K E hK hE => ?_ | refine G_plan 11 [] [0, 1, 2, 3, 4, 5, 6, 7, 8, 9, 10, 11, 12, 13, 14, 15, 16, 17] hQe fun K E hK hE => ?_ | refine G_plan 15 [([0, 1, 2, 3, 4, 5, 6, 7, 8, 9, 10], 11, [[]])] [] hQe fun K E hK hE => ?_ | refine G_plan 16 [([0, 1, 2, 3, 4, 5, 6, 7], 8, [[0]]), ([9, 10], 11, [[], []])] [] hQe fun K E hK hE => ?_ | refine G_plan 17 [([0, 1, 2, 3, 4, 5, 6, 7, 8, 9], 10, [[0]]), ([11, 12], 13, [[], []])] [] hQe fun K E hK hE => ?_ | refine G_plan 18 [] [0, 1, 2, 3, 4, 5, 6, 7, 8, 9, 10, 11, 12] hQe fun K E hK hE => ?_) | ((with_reducible refine W_cond (fun h => ?_) (fun h => ?_)) <;> (try (exfalso; first | assumption | omega))) | ((first | (with_reducible first | refine G_region fun K E hK hE => ?_ | refine W_if ?_ | refine W_ifS ?_ | refine P_heads fun Kh hKh => ?_ | refine P_fin fun Kh hKh => ?_ | refine P_each fun Kb hKb => ?_ | refine W_and ?_) | ((with_reducible refine W_fresh (fun b hb => ?_)); (repeat (obtain ⟨_, hb⟩ := hb)); (try (try (simp only [own_fr] at hb; obtain ⟨hob2, hob1, hb⟩ := hb)))) | ((with_reducible refine W_app (fun o2 ho => ?_)); (try simp (disch := assumption) only [disown_set, disown_own, ownok_o, ownok_m, List.length_map, List.length_cons, List.length_nil, Nat.zero_add, hsx, trmC, hsy, hat, hcl, hcd, hsl, List.length_map, Option.getD_none, Option.isSome_none, owned_other, disown_other, ownok_pk, ownok_m, or_true, if_true] at ho); (repeat (obtain ⟨_, ho⟩ := ho))) | ((with_reducible refine W_gd (fun h => ?_) (fun h => ?_)) <;> (try (exfalso; first | assumption | omega)))) <;> (try simp (disch := first | assumption | omega) only [go_sem, seval, hsx, trmC, hsy, hat, hcl, hcd, hsl, List.length_map, Option.getD_none, Option.isSome_none, owned_other, disown_other, ownok_pk, ownok_m, or_true, if_true, *]))))
              rename_i p1 u1 u2 u3 hp1o v1 v2 v3
              have hvs : Y.ds.length = Y.vs.length := hWY
              have hpk := Scm_pack (B := B) (xb := xb) (bm := bm) (vs := Y.vs ++ [cn]) (ds := Y.ds ++ [d]) (p1 := p1) (p2 := o2) (M := .map (mpV encI (ptA cn (Y.vs.length : Int) (atA Y.vs)))) u2 v2 u3 v3
                (by rw [List.length_append]; exact ownok_in hp1o) (by rw [List.length_append, List.length_append, hvs]; exact ho)
              have e1 : strs (Y.vs ++ [cn]) = strs Y.vs ++ [[VV.str cn]] := by simp [strs]
              have e2 : strs (Y.ds ++ [d]) = strs Y.ds ++ [[VV.str d]] := by simp [strs]
              rw [List.length_append, List.length_append, hvs] at hpk
              have hfr : ((((B.own p1 9 1 (Y.vs.length + 1)).own o2 9 1 (Y.vs.length + 1)).set bm (.map (mpV encI (ptA cn (Y.vs.length : Int) (atA Y.vs))))).set xb (.pk 68 [.lst (strs Y.vs ++ [[VV.str cn]]) p1, .lst (strs Y.ds ++ [[VV.str d]]) o2, .mp bm] [])) b = .free := by
                rw [St.set_other _ _ (by assumption), St.set_other _ _ (by assumption), own_fr]
                exact ⟨v1, by rw [own_fr]; exact ⟨u1, hb⟩⟩
              refine ⟨Scm B xb bm ⟨Y.vs ++ [cn], Y.ds ++ [d]⟩, GS.trans (GS.of_fg (Fg.of_set _ hfr)) ?_, m - 1, by omega, i + 1, ⟨Y.vs ++ [cn], Y.ds ++ [d]⟩, by omega, by omega, ⟨by simp only [WfS, List.length_append, hvs]; rfl, by simp only [List.length_append, List.length_cons, List.length_nil]; omega, HRY.out⟩, by unfold Scm; rfl, z_sl, z_sl, z_sl, z_sl, z_sl, z_sl, z_sl⟩
              unfold Scm
              simp only [e1, e2] at hpk ⊢
              rw [← show ptA cn (Y.vs.length : Int) (atA Y.vs) = _ from HPT]
              exact hpk
        · have hiL : i = ats.length := by omega
          rw [hiL, List.drop_length] at hRY
          have hRe : R = .ok Y := by rw [← hRY]; cases dd.drop ats.length <;> rfl
          have HRE := Lib.hid hRe
          clear hRY hRe
          (repeat' (first | refine Ctl ?_ | ((with_reducible refine Kof.use hK ?_); clear hK hE K E) | ((with_reducible refine Eof.use hE ?_); (try clear hK hE K E)) | ((with_reducible refine Kof.use hKh ?_); clear hKh Kh) | ((with_reducible refine Kof.use hKb (P_next ?_)); clear hKb Kb) | (with_reducible first | refine G_plan 1 [] [0, 1, 2, 3, 4, 5, 6, 7, 8, 9, 10, 11] hQe fun K E hK hE => ?_ | refine G_plan 10 [] [0, 1, 2, 3, 4, 5, 6, 7, 8, 9, 10, 11] hQe fun K E hK hE => ?_ | refine G_plan 11 [] [0, 1, 2, 3, 4, 5, 6, 7, 8, 9, 10, 11, 12, 13, 14, 15, 16, 17] hQe fun K E hK hE => ?_ | refine G_plan 15 [([0, 1, 2, 3, 4, 5, 6, 7, 8, 9, 10], 11, [[]])] [] hQe fun K E hK hE => ?_ | refine G_plan 16 [([0, 1, 2, 3, 4, 5, 6, 7], 8, [[0]]), ([9, 10], 11, [[], []])] [] hQe fun K E hK hE => ?_ | refine G_plan 17 [([0, 1, 2, 3, 4, 5, 6, 7, 8, 9], 10, [[0]]), ([11, 12], 13, [[], []])] [] hQe fun K E hK hE => ?_ | refine G_plan 18 [] [0, 1, 2, 3, 4, 5, 6, 7, 8, 9, 10, 11, 12] hQe fun K E hK hE => ?_) | ((with_reducible refine W_cond (fun h => ?_) (fun h => ?_)) <;> (try (exfalso; first | assumption | omega))) | ((first | (with_reducible first | refine G_region fun K E hK hE => ?_ | refine W_if ?_ | refine W_ifS ?_ | refine P_heads fun Kh hKh => ?_ | refine P_fin fun Kh hKh => ?_ | refine P_each fun Kb hKb => ?_ | refine W_and ?_) | ((with_reducible refine W_fresh (fun b hb => ?_)); (repeat (obtain ⟨_, hb⟩ := hb))) | ((with_reducible refine W_app (fun o2 ho => ?_)); (try simp (disch := assumption) only [disown_set, disown_own, ownok_o, ownok_m, List.length_map, List.length_cons, List.length_nil, Nat.zero_add, List.length_map] at ho); (repeat (obtain ⟨_, ho⟩ := ho))) | ((with_reducible refine W_gd (fun h => ?_) (fun h => ?_)) <;> (try (exfalso; first | assumption | omega)))) <;> (try simp (disch := first | assumption | omega) only [go_sem, seval, List.length_map, *]))))
          all_goals (first | refine W_ret res31 hQ ?_ | refine W_norm res31 hQ ?_ | refine G_pan hQ ?_)
          rw [show R = _ from HRE]
          exact ⟨_, Scm t xb bm Y, Wk.refl _, Fg.scm HF.out, rfl, rfl, hWY⟩
    · rw [if_pos (by simpa using hlen)] at hR
      have hli : ¬ ((ats.length : Int) = (dd.length : Int)) := by omega
      subst hR
      refine G_enter Tryz.func31 rfl Tryz.ntmps31 rfl fun Q hQ hQe => ?_
      (repeat' (first | refine Ctl ?_ | ((with_reducible refine Kof.use hK ?_); clear hK hE K E) | ((with_reducible refine Eof.use hE ?_); (try clear hK hE K E)) | ((with_reducible refine Kof.use hKh ?_); clear hKh Kh) | ((with_reducible refine Kof.use hKb (P_next ?_)); clear hKb Kb) | (with_reducible first | refine G_plan 1 [] [0, 1, 2, 3, 4, 5, 6, 7, 8, 9, 10, 11] hQe fun K E hK hE => ?_ | refine G_plan 10 [] [0, 1, 2, 3, 4, 5, 6, 7, 8, 9, 10, 11] hQe fun K E hK hE => ?_ | refine G_plan 11 [] [0, 1, 2, 3, 4, 5, 6, 7, 8, 9, 10, 11, 12, 13, 14, 15, 16, 17] hQe fun K E hK hE => ?_ | refine G_plan 15 [([0, 1, 2, 3, 4, 5, 6, 7, 8, 9, 10], 11, [[]])] [] hQe fun K E hK hE => ?_ | refine G_plan 16 [([0, 1, 2, 3, 4, 5, 6, 7], 8, [[0]]), ([9, 10], 11, [[], []])] [] hQe fun K E hK hE => ?_ | refine G_plan 17 [([0, 1, 2, 3, 4, 5, 6, 7, 8, 9], 10, [[0]]), ([11, 12], 13, [[], []])] [] hQe fun K E hK hE => ?_ | refine G_plan 18 [] [0, 1, 2, 3, 4, 5, 6, 7, 8, 9, 10, 11, 12] hQe fun K E hK hE => ?_) | ((with_reducible refine W_cond (fun h => ?_) (fun h => ?_)) <;> (try (exfalso; first | assumption | omega))) | ((first | (with_reducible first | refine G_region fun K E hK hE => ?_ | refine W_if ?_ | refine W_ifS ?_ | refine P_heads fun Kh hKh => ?_ | refine P_fin fun Kh hKh => ?_ | refine P_each fun Kb hKb => ?_ | refine W_and ?_) | ((with_reducible refine W_fresh (fun b hb => ?_)); (repeat (obtain ⟨_, hb⟩ := hb)); (try (obtain ⟨_, _⟩ := nef hb hpf; obtain ⟨_, _⟩ := nef hb h1f; obtain ⟨_, _⟩ := nef hb h2f))) | ((with_reducible refine W_app (fun o2 ho => ?_)); (try simp (disch := assumption) only [disown_set, disown_own, ownok_o, ownok_m, List.length_map, List.length_cons, List.length_nil, Nat.zero_add, hrl, hsd, dclC, hsl, List.length_map, Option.getD_some, Option.isSome_some] at ho); (repeat (obtain ⟨_, ho⟩ := ho))) | ((with_reducible refine W_gd (fun h => ?_) (fun h => ?_)) <;> (try (exfalso; first | assumption | omega)))) <;> (try simp (disch := first | assumption | omega) only [go_sem, seval, hrl, hsd, dclC, hsl, List.length_map, Option.getD_some, Option.isSome_some, *]))))
      all_goals (first | refine W_ret res31 hQ ?_ | refine W_norm res31 hQ ?_ | refine G_pan hQ ?_)
      exact ⟨_, Scm t xb bm X, Wk.refl _, (z_fg : Fg _ _), rfl, by decide, X, rfl⟩
end Go.Proofs.YtdibndmkeipgbaaGreatDoor
set_option maxRecDepth 100000
namespace Go.Proofs.YtdibndmkeipgbaaGreatDoor
open Go.RowKit
attribute [local go_sem] Scm_at Scm_bm Scm_gt Scm_set Scm_free owned_other disown_other

theorem termS_wf {dz : List UInt8 → Int} {X Y : Scp} {a : Trm} {d : List UInt8} (h : termS dz X a d = .ok Y) (hW : WfS X) : WfS Y ∧ Y.vs.length ≤ X.vs.length + 1 := by
  unfold termS at h
  split at h
  · split at h
    · cases h
    · injection h with h; subst h; exact ⟨hW, by omega⟩
  · split at h
    · injection h with h; subst h
      unfold WfS at hW ⊢
      simp only [List.length_append, List.length_cons, List.length_nil, hW]
      exact ⟨trivial, by omega⟩
    · split at h
      · injection h with h; subst h; exact ⟨hW, by omega⟩
      · cases h
theorem termsS_wf {dz : List UInt8 → Int} : ∀ (ts : List Trm) (ds : List (List UInt8)) {X Y : Scp}, termsS dz X ts ds = .ok Y → WfS X → WfS Y ∧ Y.vs.length ≤ X.vs.length + ts.length
  | [], ds, X, Y, h, hW => by simp only [termsS] at h; injection h with h; subst h; exact ⟨hW, by omega⟩
  | t :: ts, [], X, Y, h, hW => by simp only [termsS] at h; injection h with h; subst h; exact ⟨hW, by omega⟩
  | t :: ts, d :: ds, X, Y, h, hW => by
    simp only [termsS] at h
    cases h1 : termS dz X t d with
    | error e => rw [h1] at h; cases h
    | ok Z =>
      rw [h1, eb_ok] at h
      obtain ⟨g1, g2⟩ := termS_wf h1 hW
      obtain ⟨k1, k2⟩ := termsS_wf ts ds h g1
      exact ⟨k1, by simp only [List.length_cons]; omega⟩
theorem atomS_wf {p : Pgm} {X Y : Scp} {a : Atm} (h : atomS p X a = .ok Y) (hW : WfS X) : WfS Y ∧ Y.vs.length ≤ X.vs.length + a.ts.length := by
  unfold atomS at h
  split at h
  · cases h
  · split at h
    · cases h
    · split at h
      · cases h
      · exact termsS_wf _ _ h hW
theorem Satom_ok (t : St) (p b1 b2 xb bm : Nat) (x : Pgm) (X Y : Scp) (a : Atm) (o0 : Own) (hp : PrAt t p b1 b2 x) (hxb : t xb = .free) (hbm : t bm = .free) (hne : ¬ bm = xb) (hW : WfS X) (ha : a.ts.length ≤ 100000) (hX : X.vs.length ≤ 10000000) (h : atomS x X a = .ok Y) :
    SRet Tryz.prog 31 [.ptr p 0, .ptr xb 0, .agg [.bool a.not, .str a.rel, .lst (a.ts.map trmC) o0]] (Scm t xb bm X) (.int .i64 0) (Scm t xb bm Y) := by
  have := Satom_S t p b1 b2 xb bm x X a o0 hp hxb hbm hne hW ha hX
  rw [h] at this
  exact this.mono fun w u hq => ⟨hq.1, hq.2.1⟩
theorem Satom_no (t : St) (p b1 b2 xb bm : Nat) (x : Pgm) (X : Scp) (e : Int) (a : Atm) (o0 : Own) (hp : PrAt t p b1 b2 x) (hxb : t xb = .free) (hbm : t bm = .free) (hne : ¬ bm = xb) (hW : WfS X) (ha : a.ts.length ≤ 100000) (hX : X.vs.length ≤ 10000000) (h : atomS x X a = .error e) :
    SCalls Tryz.prog 31 [.ptr p 0, .ptr xb 0, .agg [.bool a.not, .str a.rel, .lst (a.ts.map trmC) o0]] (Scm t xb bm X) fun w u => ∃ Y : Scp, w = .ret (.int .i64 e) ∧ u = Scm t xb bm Y ∧ True := by
  have := Satom_S t p b1 b2 xb bm x X a o0 hp hxb hbm hne hW ha hX
  rw [h] at this
  exact this.mono fun w u hq => by obtain ⟨h1, _, Y, h2⟩ := hq; exact ⟨Y, h1, h2, trivial⟩
theorem atomS_err {p : Pgm} {X : Scp} {a : Atm} {e : Int} (h : atomS p X a = .error e) : e ≠ 0 := by
  have hts : ∀ (ts : List Trm) (ds : List (List UInt8)) (X : Scp), termsS (domZ p.doms) X ts ds = .error e → e ≠ 0 := by
    intro ts
    induction ts with
    | nil => intro ds X h; simp only [termsS] at h; cases h
    | cons t ts ih =>
      intro ds X h
      cases ds with
      | nil => simp only [termsS] at h; cases h
      | cons d ds =>
        simp only [termsS] at h
        cases h1 : termS (domZ p.doms) X t d with
        | error e' => rw [h1] at h; injection h with h; subst h; exact termS_err h1
        | ok Z => rw [h1, eb_ok] at h; exact ih _ _ h
  unfold atomS at h
  split at h
  · injection h with h; subst h; decide
  · split at h
    · injection h with h; subst h; decide
    · split at h
      · injection h with h; subst h; decide
      · exact hts _ _ _ h
theorem GS.scm0 {T : St} {xb bm : Nat} (h : T xb = .obj 68 [.lst [] .full, .lst [] .full, .mp bm]) : GS T (T.set xb (.pk 68 [.lst [] .no, .lst [] .no, .mp bm] rsSc)) := by
  have hd : ∀ t : St, t.disown .full = t := fun _ => rfl
  have g1 := GS.topk h
  have g2 := GS.pack (i := 0) (l := []) (o := .full) (T' := 9) (sz := 1) (rs' := [(0, 9, 1)]) (St.set_same T xb (.pk 68 [.lst [] .full, .lst [] .full, .mp bm] [])) rfl rfl (by simp)
  rw [hd, St.set_set] at g2
  have g3 := GS.pack (i := 1) (l := []) (o := .full) (T' := 9) (sz := 1) (rs' := rsSc) (St.set_same T xb (.pk 68 [.lst [] .no, .lst [] .full, .mp bm] [(0, 9, 1)])) rfl rfl (by simp)
  rw [hd, St.set_set] at g3
  exact g1.trans (g2.trans g3)
theorem givenB_at {l : List Atm} {i : Nat} {a : Atm} (h : l[i]? = some a) (n : List UInt8) : givenB (l.take (i + 1)) n = (givenB (l.take i) n || (!a.not && a.ts.any fun t => t.var && decide (t.nm = n))) := by
  unfold givenB; rw [utake h, List.any_append]; simp
theorem giv_old {H : List (List UInt8 × Bool)} {T : List Trm} {j : Nat} {d : Trm} {B0 : List UInt8 → Bool} {cn : Bool} (h : ∀ n, (lkA n H).getD false = (B0 n || (!cn && (T.take j).any fun t => t.var && decide (t.nm = n)))) (hd : T[j]? = some d) (hno : d.var = false ∨ cn = true) :
    ∀ n, (lkA n H).getD false = (B0 n || (!cn && (T.take (j + 1)).any fun t => t.var && decide (t.nm = n))) := by
  intro n
  rw [h n, utake hd, List.any_append]
  rcases hno with e | e
  · simp [e]
  · simp [e]
theorem giv_new {H : List (List UInt8 × Bool)} {T : List Trm} {j : Nat} {dn : List UInt8} {dz : Int} {B0 : List UInt8 → Bool} (h : ∀ n, (lkA n H).getD false = (B0 n || (!false && (T.take j).any fun t => t.var && decide (t.nm = n)))) (hd : T[j]? = some ⟨true, dn, dz⟩) :
    ∀ n, (lkA n (ptA dn true H)).getD false = (B0 n || (!false && (T.take (j + 1)).any fun t => t.var && decide (t.nm = n))) := by
  intro n
  rw [lkA_ptA, utake hd, List.any_append]
  by_cases e : n = dn
  · subst e; simp
  · rw [if_neg e, h n]
    have e2 : ¬ dn = n := fun x => e x.symm
    simp [e2]
/-- What finding a rule's scope comes to. -/
def ScQ (t : St) (r : Except Int Scp) : SEnd → St → Prop := fun w u =>
  match r with
  | .ok Y => ∃ xb bm, w = .ret (.tup [.ptr xb 0, .int .i64 0]) ∧ Fg u t ∧ u xb = .pk 68 [.lst (strs Y.vs) .no, .lst (strs Y.ds) .no, .mp bm] rsSc
  | .error e => w = .ret (.tup [.raw (.pointer none), .int .i64 e]) ∧ u = t
theorem GS.scm1 {t : St} {xb bm : Nat} : GS ((t.set bm (.map [])).set xb (.obj 68 [.lst [] .full, .lst [] .full, .mp bm])) (Scm t xb bm ⟨[], []⟩) := by
  have := GS.scm0 (T := (t.set bm (.map [])).set xb (.obj 68 [.lst [] .full, .lst [] .full, .mp bm])) (bm := bm) (St.set_same _ _ _)
  rw [St.set_set] at this
  exact this
section
variable (t : St) (p b1 b2 xb bm : Nat) (x : Pgm) (a : Atm) (o0 : Own) (hp : PrAt t p b1 b2 x) (hxb : t xb = .free) (hbm : t bm = .free) (hne : ¬ bm = xb) (ha : a.ts.length ≤ 100000)
include hp hxb hbm hne ha
theorem Satom_ok0 (Y : Scp) (h : atomS x ⟨[], []⟩ a = .ok Y) :
    SRet Tryz.prog 31 [.ptr p 0, .ptr xb 0, .agg [.bool a.not, .str a.rel, .lst (a.ts.map trmC) o0]] ((t.set bm (.map [])).set xb (.obj 68 [.lst [] .full, .lst [] .full, .mp bm])) (.int .i64 0) (Scm t xb bm Y) :=
  fun w0 G w vs hS hR => Satom_ok t p b1 b2 xb bm x ⟨[], []⟩ Y a o0 hp hxb hbm hne rfl ha (by simp) h w0 G w vs (GS.scm1 _ _ _ hS) hR
theorem Satom_no0 (e : Int) (h : atomS x ⟨[], []⟩ a = .error e) :
    SCalls Tryz.prog 31 [.ptr p 0, .ptr xb 0, .agg [.bool a.not, .str a.rel, .lst (a.ts.map trmC) o0]] ((t.set bm (.map [])).set xb (.obj 68 [.lst [] .full, .lst [] .full, .mp bm])) fun w u => ∃ Y : Scp, w = .ret (.int .i64 e) ∧ u = Scm t xb bm Y ∧ True :=
  fun w0 G w vs hS hR => Satom_no t p b1 b2 xb bm x ⟨[], []⟩ e a o0 hp hxb hbm hne rfl ha (by simp) h w0 G w vs (GS.scm1 _ _ _ hS) hR
end
theorem Swithin_g (l : List Atm) (a : Atm) (o0 : Own) (bm : Nat) (mp : List (List UInt8 × Bool)) (ha : a.ts.length ≤ 140737488355328) (t : St) (hm : t bm = .map (mpV encB mp)) (hg : ∀ n, (lkA n mp).getD false = givenB l n) :
    SRet Tryz.prog 32 [.agg [.bool a.not, .str a.rel, .lst (a.ts.map trmC) o0], .mp bm] t (.bool (withB l a)) t := by
  have := Swithin_S a o0 bm mp ha t hm
  simp only [hg] at this
  exact this
set_option maxHeartbeats 8000000 in
theorem Sscope_S (t : St) (p b1 b2 : Nat) (x : Pgm) (r : Rul) (hp : PrAt t p b1 b2 x) (hh : r.head.ts.length ≤ 100000) (hb : r.body.length ≤ 10) (hba : ∀ a, a ∈ r.body → a.ts.length ≤ 100000) :
    SCalls Tryz.prog 21 [.ptr p 0, .agg (rulC r)] t (ScQ t (scopeS x r)) := by
  obtain ⟨⟨hn, hr, hts⟩, body⟩ := r
  simp only at hh hb hba
  generalize hR : scopeS x ⟨⟨hn, hr, hts⟩, body⟩ = R
  unfold scopeS at hR
  simp only at hR
  have HR := Lib.hid hR
  clear hR
  have hpp := hp
  obtain ⟨hp0, h10, h20⟩ := hp
  have hpf : t p ≠ .free := by rw [hp0]; simp
  have h1f : t b1 ≠ .free := by rw [h10]; simp
  have h2f : t b2 ≠ .free := by rw [h20]; simp
  have HP := Lib.hid hpp
  clear hpp hp0 h10 h20
  have hblen : body.length ≤ 10 := hb
  clear hb
  refine SCalls.gs ?_
  cases hA : atomS x ⟨[], []⟩ ⟨hn, hr, hts⟩ with
  | error e =>
    have hen := atomS_err hA
    have HA := Lib.hid hA
    rw [hA, eb_err] at HR
    clear hA
    refine G_enter Tryz.func21 rfl Tryz.ntmps21 rfl fun Q hQ hQe => ?_
    (repeat' (first | refine Ctl ?_ | ((with_reducible refine Kof.use hK ?_); clear hK hE K E) | ((with_reducible refine Eof.use hE ?_); (try clear hK hE K E)) | ((with_reducible refine W_cond (fun h => ?_) (fun h => ?_)) <;> (try (exfalso; first | assumption | omega))) | ((first | (with_reducible first | refine G_region fun K E hK hE => ?_ | refine call_ret can32 (Swithin_S _ _ _ _ (by assumption) (by assumption) _) ?_ | refine W_if ?_ | refine W_ifS ?_ | refine W_and ?_) | ((with_reducible refine call_ex can31 (Satom_no0 _ _ b1 b2 _ _ x ⟨hn, hr, hts⟩ _ (HP.out.fg (Fg.of_set _ (by assumption))) (by rw [St.set_other _ _ (by assumption)]; assumption) (by rw [St.set_other _ _ (by assumption)]; assumption) (by assumption) hh e HA.out) (fun a h => ?_))) | ((with_reducible refine W_fresh (fun b hb => ?_)); (repeat (obtain ⟨_, hb⟩ := hb)); (try (obtain ⟨_, _⟩ := nef hb hpf; obtain ⟨_, _⟩ := nef hb h1f; obtain ⟨_, _⟩ := nef hb h2f))) | ((with_reducible refine W_gd (fun h => ?_) (fun h => ?_)) <;> (try (exfalso; first | assumption | omega)))) <;> (try simp (disch := first | assumption | omega) only [go_sem, seval, rulC, *]))))
    all_goals (first | refine W_ret res21 hQ ?_ | refine W_norm res21 hQ ?_ | refine G_pan hQ ?_)
    rw [← show _ = R from HR]
    exact ⟨_, t, Wk.refl _, (by unfold Scm; (exact z_fg) : Fg _ _), t, GS.refl _, rfl, rfl⟩
  | ok Y =>
    rw [hA, eb_ok] at HR
    have HA := Lib.hid hA
    clear hA
    refine G_enter Tryz.func21 rfl Tryz.ntmps21 rfl fun Q hQ hQe => ?_
    (repeat' (first | refine Ctl ?_ | ((with_reducible refine Kof.use hK ?_); clear hK hE K E) | ((with_reducible refine Eof.use hE ?_); (try clear hK hE K E)) | ((with_reducible refine W_cond (fun h => ?_) (fun h => ?_)) <;> (try (exfalso; first | assumption | omega))) | ((first | (with_reducible first | refine G_region fun K E hK hE => ?_ | refine call_ret can31 (Satom_ok0 _ _ b1 b2 _ _ x ⟨hn, hr, hts⟩ _ (HP.out.fg (Fg.of_set _ (by assumption))) (by rw [St.set_other _ _ (by assumption)]; assumption) (by rw [St.set_other _ _ (by assumption)]; assumption) (by assumption) hh Y HA.out) ?_ | refine call_ret can32 (Swithin_S _ _ _ _ (by assumption) (by assumption) _) ?_ | refine W_if ?_ | refine W_ifS ?_ | refine W_and ?_) | ((with_reducible refine W_fresh (fun b hb => ?_)); (repeat (obtain ⟨_, hb⟩ := hb)); (try (obtain ⟨_, _⟩ := nef hb hpf; obtain ⟨_, _⟩ := nef hb h1f; obtain ⟨_, _⟩ := nef hb h2f))) | ((with_reducible refine W_gd (fun h => ?_) (fun h => ?_)) <;> (try (exfalso; first | assumption | omega)))) <;> (try simp (disch := first | assumption | omega) only [go_sem, seval, rulC, *]))))
    rename_i br hbr r1 r2 r3 r4 r5 r6 bm m1 m2 hbm m3 m4 m5 m6 m7 m8 xb x1 x2 x3 x4 hxb x5 x6 x7 x8 x9 x10 y1 y2 y3 y4 y5 y6 y7 y8 y9 y10 y11 y12
    obtain ⟨bg, hbg⟩ : ∃ z, z = b := ⟨_, rfl⟩
    subst hbg
    have hWY := atomS_wf HA.out rfl
    simp only [List.length_nil, Nat.zero_add] at hWY
    obtain ⟨hWY, hYl⟩ := hWY
    have hPB : PrAt (t.set br (.obj 50 [.bool hn, .str hr, .lst (hts.map trmC) .no, .lst (body.map atmC) .no])) p b1 b2 x := HP.out.fg (Fg.of_set _ hbr)
    have hBr : (t.set br (.obj 50 [.bool hn, .str hr, .lst (hts.map trmC) .no, .lst (body.map atmC) .no])) br = .obj 50 [.bool hn, .str hr, .lst (hts.map trmC) .no, .lst (body.map atmC) .no] := St.set_same _ _ _
    have hBx : (t.set br (.obj 50 [.bool hn, .str hr, .lst (hts.map trmC) .no, .lst (body.map atmC) .no])) xb = .free := by rw [St.set_other _ _ (by assumption)]; exact hxb
    have hBm : (t.set br (.obj 50 [.bool hn, .str hr, .lst (hts.map trmC) .no, .lst (body.map atmC) .no])) bm = .free := by rw [St.set_other _ _ (by assumption)]; exact hbm
    have hBg : (t.set br (.obj 50 [.bool hn, .str hr, .lst (hts.map trmC) .no, .lst (body.map atmC) .no])) bg = .free := by rw [St.set_other _ _ (by assumption)]; exact hb
    have hFB : Fg (t.set br (.obj 50 [.bool hn, .str hr, .lst (hts.map trmC) .no, .lst (body.map atmC) .no])) t := Fg.of_set _ hbr
    generalize t.set br (.obj 50 [.bool hn, .str hr, .lst (hts.map trmC) .no, .lst (body.map atmC) .no]) = B at *
    have HF := Lib.hid hFB
    have HPB := Lib.hid hPB
    obtain ⟨hPB1, hPB2, hPB3⟩ := hPB
    have hBp : B p ≠ .free := by rw [hPB1]; simp
    have hB1 : B b1 ≠ .free := by rw [hPB2]; simp
    have hB2 : B b2 ≠ .free := by rw [hPB3]; simp
    have hBrf : B br ≠ .free := by rw [hBr]; simp
    clear hFB hPB1 hPB2 hPB3 hbr hxb hbm hb hpf h1f h2f HP HA
    generalize hK : (fun y : Scp => if (withB body ⟨hn, hr, hts⟩ && body.all (withB body)) = false then (Except.error 125 : Except Int Scp) else if 8 < y.vs.length then .error 2 else .ok y) = KK at HR
    have HK := Lib.hid hK
    clear hK
    refine G_loopS (fun m env s' => ∃ (i : Nat) (Z : Scp) (G : List (List UInt8 × Bool)), i ≤ body.length ∧ m + i = body.length ∧ (WfS Z ∧ Z.vs.length ≤ 100000 * (i + 1) ∧ Hid ((∀ n, (lkA n G).getD false = givenB (body.take i) n)) ∧ Hid (eb (atomsS x Z (body.drop i)) KK = R)) ∧ s' = Scm (B.set bg (.map (mpV encB G))) xb bm Z ∧
      env 0 = .ptr p 0 ∧ env 3 = .ptr br 0 ∧ env 6 = .ptr xb 0 ∧ env 8 = .mp bg ∧ env 30 = .lst (body.map atmC) .no ∧ env 31 = .int .i64 body.length ∧ env 32 = .int .i64 i) body.length ?_ ?_
    · exact ⟨_, GS.refl _, 0, Y, [], by omega, by omega, ⟨hWY, by omega, Lib.hid (fun n => by simp [lkA, givenB]), HR⟩, rfl, z_sl, z_sl, z_sl, z_sl, z_sl, z_sl, z_sl⟩
    · clear hWY hYl HR
      rintro m env s' ⟨i, Z, G, hi, hm, ⟨hWZ, hZl, HG, HRZ⟩, rfl, e0, e3, e6, e8, e30, e31, e32⟩
      by_cases hlt : i < body.length
      · obtain ⟨c, hc⟩ := uget hlt
        have hct := hba c (List.mem_of_getElem? hc)
        have hsx := atmC_at hc
        have HC := Lib.hid hc
        have hHR := HRZ.out
        rw [List.drop_eq_getElem_cons hlt, show body[i] = c by rw [List.getElem?_eq_getElem hlt] at hc; injection hc] at hHR
        simp only [atomsS] at hHR
        clear hc
        obtain ⟨cn, cr, cts⟩ := c
        simp only at hct
        cases hA2 : atomS x Z ⟨cn, cr, cts⟩ with
        | error e =>
          have hen := atomS_err hA2
          have HA2 := Lib.hid hA2
          rw [hA2, eb_err, eb_err] at hHR
          have HE := Lib.hid hHR
          clear hHR hA2 HRZ
          (repeat' (first | refine Ctl ?_ | ((with_reducible refine Kof.use hK ?_); clear hK hE K E) | ((with_reducible refine Eof.use hE ?_); (try clear hK hE K E)) | ((with_reducible refine W_cond (fun h => ?_) (fun h => ?_)) <;> (try (exfalso; first | assumption | omega))) | ((first | (with_reducible first | refine G_region fun K E hK hE => ?_ | refine call_ret can32 (Swithin_S _ _ _ _ (by assumption) (by assumption) _) ?_ | refine W_if ?_ | refine W_ifS ?_ | refine W_and ?_) | ((with_reducible refine call_ex can31 (Satom_no _ p b1 b2 _ _ x Z e ⟨cn, cr, cts⟩ _ ((HPB.out.fg (Fg.of_set _ hBg)).fg (Fg.of_set _ (by rw [St.set_other _ _ (by assumption)]; assumption))) (by rw [St.set_other _ _ (by assumption), St.set_other _ _ (by assumption)]; exact hBx) (by rw [St.set_other _ _ (by assumption), St.set_other _ _ (by assumption)]; exact hBm) (by assumption) hWZ hct (by omega) HA2.out) (fun a h => ?_))) | ((with_reducible refine W_fresh (fun b hb => ?_)); (repeat (obtain ⟨_, hb⟩ := hb)); (try (obtain ⟨_, _⟩ := nef hb hBp; obtain ⟨_, _⟩ := nef hb hB1; obtain ⟨_, _⟩ := nef hb hB2; obtain ⟨_, _⟩ := nef hb hBrf))) | ((with_reducible refine W_gd (fun h => ?_) (fun h => ?_)) <;> (try (exfalso; first | assumption | omega)))) <;> (try simp (disch := first | assumption | omega) only [go_sem, seval, hsx, atmC, List.length_map, *]))))
          all_goals (first | refine W_ret res21 hQ ?_ | refine W_norm res21 hQ ?_ | refine G_pan hQ ?_)
          rw [← show _ = R from HE]
          exact ⟨_, t, Wk.refl _, (by unfold Scm; (exact z_fg) : Fg _ B).trans HF.out, t, GS.refl _, rfl, rfl⟩
        | ok W =>
          rw [hA2, eb_ok] at hHR
          have HE := Lib.hid hHR
          have HA2 := Lib.hid hA2
          clear hHR hA2 HRZ
          (repeat' (first | refine Ctl ?_ | ((with_reducible refine Kof.use hK ?_); clear hK hE K E) | ((with_reducible refine Eof.use hE ?_); (try clear hK hE K E)) | ((with_reducible refine W_cond (fun h => ?_) (fun h => ?_)) <;> (try (exfalso; first | assumption | omega))) | ((first | (with_reducible first | refine G_region fun K E hK hE => ?_ | refine call_ret can31 (Satom_ok _ p b1 b2 _ _ x Z W ⟨cn, cr, cts⟩ _ ((HPB.out.fg (Fg.of_set _ hBg)).fg (Fg.of_set _ (by rw [St.set_other _ _ (by assumption)]; assumption))) (by rw [St.set_other _ _ (by assumption), St.set_other _ _ (by assumption)]; exact hBx) (by rw [St.set_other _ _ (by assumption), St.set_other _ _ (by assumption)]; exact hBm) (by assumption) hWZ hct (by omega) HA2.out) ?_ | refine call_ret can32 (Swithin_S _ _ _ _ (by assumption) (by assumption) _) ?_ | refine W_if ?_ | refine W_ifS ?_ | refine W_and ?_) | ((with_reducible refine W_fresh (fun b hb => ?_)); (repeat (obtain ⟨_, hb⟩ := hb)); (try (obtain ⟨_, _⟩ := nef hb hBp; obtain ⟨_, _⟩ := nef hb hB1; obtain ⟨_, _⟩ := nef hb hB2; obtain ⟨_, _⟩ := nef hb hBrf))) | ((with_reducible refine W_gd (fun h => ?_) (fun h => ?_)) <;> (try (exfalso; first | assumption | omega)))) <;> (try simp (disch := first | assumption | omega) only [go_sem, seval, hsx, atmC, List.length_map, *]))))
          obtain ⟨be, hbe⟩ : ∃ z, z = b := ⟨_, rfl⟩
          subst hbe
          have hWW := atomS_wf HA2.out hWZ
          obtain ⟨hWW, hWl⟩ := hWW
          simp only at hWl
          rw [show (B.set bg (.map (mpV encB G))).set be (.obj 47 [.bool cn, .str cr, .lst (cts.map trmC) .no]) = (B.set be (.obj 47 [.bool cn, .str cr, .lst (cts.map trmC) .no])).set bg (.map (mpV encB G)) from set_comm' (by assumption)]
          have hCe : (B.set be (.obj 47 [.bool cn, .str cr, .lst (cts.map trmC) .no])) be = .obj 47 [.bool cn, .str cr, .lst (cts.map trmC) .no] := St.set_same _ _ _
          have hCr : (B.set be (.obj 47 [.bool cn, .str cr, .lst (cts.map trmC) .no])) br = B br := by rw [St.set_other _ _ (by assumption)]
          have hCg : (B.set be (.obj 47 [.bool cn, .str cr, .lst (cts.map trmC) .no])) bg = .free := by rw [St.set_other _ _ (by assumption)]; exact hBg
          have hFC : Fg (B.set be (.obj 47 [.bool cn, .str cr, .lst (cts.map trmC) .no])) B := Fg.of_set _ hb
          generalize B.set be (.obj 47 [.bool cn, .str cr, .lst (cts.map trmC) .no]) = C at *
          have HFC := Lib.hid hFC
          have hCef : C be ≠ .free := by rw [hCe]; simp
          have hCrf : C br ≠ .free := by rw [hCr]; exact hBrf
          clear hFC hCr HA2 hb
          refine G_loopS (fun m' env s' => ∃ (j : Nat) (H : List (List UInt8 × Bool)), j ≤ cts.length ∧ m' + j = cts.length ∧ Hid (∀ n, (lkA n H).getD false = (givenB (body.take i) n || (!cn && (cts.take j).any fun t => t.var && decide (t.nm = n)))) ∧ s' = Scm (C.set bg (.map (mpV encB H))) xb bm W ∧
            env 0 = .ptr p 0 ∧ env 3 = .ptr br 0 ∧ env 6 = .ptr xb 0 ∧ env 8 = .mp bg ∧ env 30 = .lst (body.map atmC) .no ∧ env 31 = .int .i64 body.length ∧ env 32 = .int .i64 i ∧ env 10 = .ptr be 0 ∧ env 44 = .lst (cts.map trmC) .no ∧ env 45 = .int .i64 cts.length ∧ env 46 = .int .i64 j) cts.length ?_ ?_
          · exact ⟨_, GS.refl _, 0, G, by omega, by omega, Lib.hid (fun n => by rw [HG.out n]; simp), rfl, z_sl, z_sl, z_sl, z_sl, z_sl, z_sl, z_sl, z_sl, z_sl, z_sl, z_sl⟩
          · clear e0 e3 e6 e8 e30 e31 e32
            rintro m' env s' ⟨j, H, hj, hm', HH, rfl, e0, e3, e6, e8, e30, e31, e32, e10, e44, e45, e46⟩
            by_cases hlj : j < cts.length
            · obtain ⟨d, hd⟩ := uget hlj
              have hsd := trmC_at hd
              have HD := Lib.hid hd
              clear hd
              obtain ⟨dv, dn, dz⟩ := d
              cases dv
              all_goals cases cn
              all_goals (repeat' (first | refine Ctl ?_ | ((with_reducible refine Kof.use hK ?_); clear hK hE K E) | ((with_reducible refine Eof.use hE ?_); (try clear hK hE K E)) | ((with_reducible refine W_cond (fun h => ?_) (fun h => ?_)) <;> (try (exfalso; first | assumption | omega))) | ((first | (with_reducible first | refine G_region fun K E hK hE => ?_ | refine call_ret can32 (Swithin_S _ _ _ _ (by assumption) (by assumption) _) ?_ | refine W_if ?_ | refine W_ifS ?_ | refine W_and ?_) | ((with_reducible refine W_fresh (fun b hb => ?_)); (repeat (obtain ⟨_, hb⟩ := hb)); (try (obtain ⟨_, _⟩ := nef hb hCef; obtain ⟨_, _⟩ := nef hb hCrf))) | ((with_reducible refine W_gd (fun h => ?_) (fun h => ?_)) <;> (try (exfalso; first | assumption | omega)))) <;> (try simp (disch := first | assumption | omega) only [go_sem, seval, hsd, trmC, List.length_map, *]))))
              · exact ⟨Scm (C.set bg (.map (mpV encB H))) xb bm W, GS.of_fg (Fg.scm (Fg.of_set _ (by rw [St.set_other _ _ (by assumption)]; exact hb))), m' - 1, by omega, j + 1, H, by omega, by omega, Lib.hid (giv_old HH.out HD.out (.inl rfl)), rfl, z_sl, z_sl, z_sl, z_sl, z_sl, z_sl, z_sl, z_sl, z_sl, z_sl, z_sl⟩
              · exact ⟨Scm (C.set bg (.map (mpV encB H))) xb bm W, GS.of_fg (Fg.scm (Fg.of_set _ (by rw [St.set_other _ _ (by assumption)]; exact hb))), m' - 1, by omega, j + 1, H, by omega, by omega, Lib.hid (giv_old HH.out HD.out (.inr rfl)), rfl, z_sl, z_sl, z_sl, z_sl, z_sl, z_sl, z_sl, z_sl, z_sl, z_sl, z_sl⟩
              · exact ⟨Scm (C.set bg (.map (mpV encB (ptA dn true H)))) xb bm W, GS.of_fg (Fg.scm (Fg.of_set _ (by rw [St.set_other _ _ (by assumption)]; exact hb))), m' - 1, by omega, j + 1, ptA dn true H, by omega, by omega, Lib.hid (giv_new HH.out HD.out), rfl, z_sl, z_sl, z_sl, z_sl, z_sl, z_sl, z_sl, z_sl, z_sl, z_sl, z_sl⟩
              · exact ⟨Scm (C.set bg (.map (mpV encB H))) xb bm W, GS.of_fg (Fg.scm (Fg.of_set _ (by rw [St.set_other _ _ (by assumption)]; exact hb))), m' - 1, by omega, j + 1, H, by omega, by omega, Lib.hid (giv_old HH.out HD.out (.inr rfl)), rfl, z_sl, z_sl, z_sl, z_sl, z_sl, z_sl, z_sl, z_sl, z_sl, z_sl, z_sl⟩
            · (repeat' (first | refine Ctl ?_ | ((with_reducible refine Kof.use hK ?_); clear hK hE K E) | ((with_reducible refine Eof.use hE ?_); (try clear hK hE K E)) | ((with_reducible refine W_cond (fun h => ?_) (fun h => ?_)) <;> (try (exfalso; first | assumption | omega))) | ((first | (with_reducible first | refine G_region fun K E hK hE => ?_ | refine call_ret can32 (Swithin_S _ _ _ _ (by assumption) (by assumption) _) ?_ | refine W_if ?_ | refine W_ifS ?_ | refine W_and ?_) | ((with_reducible refine W_fresh (fun b hb => ?_)); (repeat (obtain ⟨_, hb⟩ := hb))) | ((with_reducible refine W_gd (fun h => ?_) (fun h => ?_)) <;> (try (exfalso; first | assumption | omega)))) <;> (try simp (disch := first | assumption | omega) only [go_sem, seval, List.length_map, *]))))
              refine ⟨Scm (B.set bg (.map (mpV encB H))) xb bm W, GS.of_fg (Fg.scm (Fg.set HFC.out _ _)), m - 1, by omega, i + 1, W, H, by omega, by omega, ⟨hWW, by omega, Lib.hid (fun n => ?_), HE⟩, rfl, z_sl, z_sl, z_sl, z_sl, z_sl, z_sl, z_sl⟩
              have := HH.out n
              rw [show j = cts.length by omega, List.take_length] at this
              rw [this, givenB_at HC.out]
      · have hiL : i = body.length := by omega
        have hGb := HG.out
        rw [hiL, List.take_length] at hGb
        have HGB := Lib.hid hGb
        have hRf := HRZ.out
        rw [hiL, List.drop_length] at hRf
        simp only [atomsS, eb_ok] at hRf
        rw [← HK.out] at hRf
        have HRF := Lib.hid hRf
        clear hGb hRf HRZ HG HK
        subst hiL
        (repeat' (first | refine Ctl ?_ | ((with_reducible refine Kof.use hK ?_); clear hK hE K E) | ((with_reducible refine Eof.use hE ?_); (try clear hK hE K E)) | ((with_reducible refine W_cond (fun h => ?_) (fun h => ?_)) <;> (try (exfalso; first | assumption | omega))) | ((first | (with_reducible first | refine G_region fun K E hK hE => ?_ | refine call_ret can32 (Swithin_g body ⟨hn, hr, hts⟩ _ bg G (by simp only; omega) _ (by rw [Scm_gt (by assumption) (by assumption), St.set_same]) HGB.out) ?_ | refine call_ret can32 (Swithin_S _ _ _ _ (by assumption) (by assumption) _) ?_ | refine W_if ?_ | refine W_ifS ?_ | refine W_and ?_) | ((with_reducible refine W_fresh (fun b hb => ?_)); (repeat (obtain ⟨_, hb⟩ := hb))) | ((with_reducible refine W_gd (fun h => ?_) (fun h => ?_)) <;> (try (exfalso; first | assumption | omega)))) <;> (try simp (disch := first | assumption | omega) only [go_sem, seval, List.length_map, *]))))
        have hSx : (Scm (B.set bg (.map (mpV encB G))) xb bm Z) xb = .pk 68 [.lst (strs Z.vs) .no, .lst (strs Z.ds) .no, .mp bm] rsSc := Scm_at
        have hSg : (Scm (B.set bg (.map (mpV encB G))) xb bm Z) bg = .map (mpV encB G) := by rw [Scm_gt (by assumption) (by assumption), St.set_same]
        have hFS : Fg (Scm (B.set bg (.map (mpV encB G))) xb bm Z) B := by unfold Scm; (exact z_fg)
        generalize Scm (B.set bg (.map (mpV encB G))) xb bm Z = S at *
        have HFS := Lib.hid (hFS.trans HF.out)
        have hSxf : S xb ≠ .free := by rw [hSx]; simp
        have hSgf : S bg ≠ .free := by rw [hSg]; simp
        clear hFS
        generalize hwh : withB body ⟨hn, hr, hts⟩ = wh at *
        refine G_loopS (fun m env s' => ∃ i : Nat, i ≤ body.length ∧ m + i = body.length ∧ s' = S ∧ env 6 = .ptr xb 0 ∧ env 8 = .mp bg ∧ env 14 = .bool (wh && (body.take i).all (withB body)) ∧ env 67 = .lst (body.map atmC) .no ∧ env 68 = .int .i64 body.length ∧ env 69 = .int .i64 i) body.length ?_ ?_
        · exact ⟨S, GS.refl _, 0, by omega, by omega, rfl, z_sl, z_sl, by simp only [List.take_zero, List.all_nil, Bool.and_true]; ((try simp (disch := first | assumption | omega) only [go_sem, seval, *]) <;> first | rfl | omega), z_sl, z_sl, z_sl⟩
        · clear e0 e3 e6 e8 e30 e31 e32
          rintro m env s' ⟨i, hi, hm, rfl, e6, e8, e14, e67, e68, e69⟩
          clear hlt
          by_cases hlt : i < body.length
          · obtain ⟨c, hc⟩ := uget hlt
            have hct := hba c (List.mem_of_getElem? hc)
            have hsx := atmC_at hc
            have hnx : (body.take (i + 1)).all (withB body) = ((body.take i).all (withB body) && withB body c) := by rw [utake hc, List.all_append]; simp
            have HNX := Lib.hid hnx
            clear hc hnx
            generalize hws : (wh && (body.take i).all (withB body)) = ws at *
            have HWS := Lib.hid hws
            obtain ⟨cn, cr, cts⟩ := c
            simp only at hct
            clear hws
            cases ws
            · (repeat' (first | refine Ctl ?_ | ((with_reducible refine Kof.use hK ?_); clear hK hE K E) | ((with_reducible refine Eof.use hE ?_); (try clear hK hE K E)) | ((with_reducible refine W_cond (fun h => ?_) (fun h => ?_)) <;> (try (exfalso; first | assumption | omega))) | ((first | (with_reducible first | refine G_region fun K E hK hE => ?_ | refine call_ret can32 (Swithin_S _ _ _ _ (by assumption) (by assumption) _) ?_ | refine W_if ?_ | refine W_ifS ?_ | refine W_and ?_) | ((with_reducible refine W_fresh (fun b hb => ?_)); (repeat (obtain ⟨_, hb⟩ := hb)); (try (obtain ⟨_, _⟩ := nef hb hSxf; obtain ⟨_, _⟩ := nef hb hSgf))) | ((with_reducible refine W_gd (fun h => ?_) (fun h => ?_)) <;> (try (exfalso; first | assumption | omega)))) <;> (try simp (disch := first | assumption | omega) only [go_sem, seval, hsx, atmC, List.length_map, *]))))
              exact ⟨s', GS.of_fg (Fg.of_set _ hb), m - 1, by omega, i + 1, by omega, by omega, rfl, z_sl, z_sl, by rw [HNX.out, ← Bool.and_assoc, HWS.out]; ((try simp (disch := first | assumption | omega) only [go_sem, seval, *]) <;> first | rfl | omega), z_sl, z_sl, z_sl⟩
            · (repeat' (first | refine Ctl ?_ | ((with_reducible refine Kof.use hK ?_); clear hK hE K E) | ((with_reducible refine Eof.use hE ?_); (try clear hK hE K E)) | ((with_reducible refine W_cond (fun h => ?_) (fun h => ?_)) <;> (try (exfalso; first | assumption | omega))) | ((first | (with_reducible first | refine G_region fun K E hK hE => ?_ | refine call_ret can32 (Swithin_g body ⟨cn, cr, cts⟩ _ bg G (by simp only; omega) _ (by rw [St.set_other _ _ (by assumption)]; exact hSg) HGB.out) ?_ | refine call_ret can32 (Swithin_S _ _ _ _ (by assumption) (by assumption) _) ?_ | refine W_if ?_ | refine W_ifS ?_ | refine W_and ?_) | ((with_reducible refine W_fresh (fun b hb => ?_)); (repeat (obtain ⟨_, hb⟩ := hb)); (try (obtain ⟨_, _⟩ := nef hb hSxf; obtain ⟨_, _⟩ := nef hb hSgf))) | ((with_reducible refine W_gd (fun h => ?_) (fun h => ?_)) <;> (try (exfalso; first | assumption | omega)))) <;> (try simp (disch := first | assumption | omega) only [go_sem, seval, hsx, atmC, List.length_map, *]))))
              exact ⟨s', GS.of_fg (Fg.of_set _ hb), m - 1, by omega, i + 1, by omega, by omega, rfl, z_sl, z_sl, by rw [HNX.out, ← Bool.and_assoc, HWS.out, Bool.true_and]; ((try simp (disch := first | assumption | omega) only [go_sem, seval, *]) <;> first | rfl | omega), z_sl, z_sl, z_sl⟩
          · have hie : i = body.length := by omega
            rw [hie, List.take_length] at e14
            clear hlt
            have hRf := HRF.out
            simp only at hRf
            generalize hws : (wh && body.all (withB body)) = ws at *
            clear hws HRF
            subst hie
            have hvl : (strs Z.vs).length = Z.vs.length := by simp [strs]
            cases ws
            · rw [if_pos rfl] at hRf
              have HRF := Lib.hid hRf
              clear hRf
              (repeat' (first | refine Ctl ?_ | ((with_reducible refine Kof.use hK ?_); clear hK hE K E) | ((with_reducible refine Eof.use hE ?_); (try clear hK hE K E)) | ((with_reducible refine W_cond (fun h => ?_) (fun h => ?_)) <;> (try (exfalso; first | assumption | omega))) | ((first | (with_reducible first | refine G_region fun K E hK hE => ?_ | refine call_ret can32 (Swithin_S _ _ _ _ (by assumption) (by assumption) _) ?_ | refine W_if ?_ | refine W_ifS ?_ | refine W_and ?_) | ((with_reducible refine W_fresh (fun b hb => ?_)); (repeat (obtain ⟨_, hb⟩ := hb))) | ((with_reducible refine W_gd (fun h => ?_) (fun h => ?_)) <;> (try (exfalso; first | assumption | omega)))) <;> (try simp (disch := first | assumption | omega) only [go_sem, seval, List.length_map, *]))))
              all_goals (first | refine W_ret res21 hQ ?_ | refine W_norm res21 hQ ?_ | refine G_pan hQ ?_)
              rw [← show _ = R from HRF]
              exact ⟨_, t, Wk.refl _, HFS.out, t, GS.refl _, rfl, rfl⟩
            · rw [if_neg (by decide)] at hRf
              by_cases h8 : 8 < Z.vs.length
              · rw [if_pos h8] at hRf
                have HRF := Lib.hid hRf
                clear hRf
                (repeat' (first | refine Ctl ?_ | ((with_reducible refine Kof.use hK ?_); clear hK hE K E) | ((with_reducible refine Eof.use hE ?_); (try clear hK hE K E)) | ((with_reducible refine W_cond (fun h => ?_) (fun h => ?_)) <;> (try (exfalso; first | assumption | omega))) | ((first | (with_reducible first | refine G_region fun K E hK hE => ?_ | refine call_ret can32 (Swithin_S _ _ _ _ (by assumption) (by assumption) _) ?_ | refine W_if ?_ | refine W_ifS ?_ | refine W_and ?_) | ((with_reducible refine W_fresh (fun b hb => ?_)); (repeat (obtain ⟨_, hb⟩ := hb))) | ((with_reducible refine W_gd (fun h => ?_) (fun h => ?_)) <;> (try (exfalso; first | assumption | omega)))) <;> (try simp (disch := first | assumption | omega) only [go_sem, seval, List.length_map, hvl, *]))))
                all_goals (first | refine W_ret res21 hQ ?_ | refine W_norm res21 hQ ?_ | refine G_pan hQ ?_)
                rw [← show _ = R from HRF]
                exact ⟨_, t, Wk.refl _, HFS.out, t, GS.refl _, rfl, rfl⟩
              · rw [if_neg h8] at hRf
                have HRF := Lib.hid hRf
                clear hRf
                (repeat' (first | refine Ctl ?_ | ((with_reducible refine Kof.use hK ?_); clear hK hE K E) | ((with_reducible refine Eof.use hE ?_); (try clear hK hE K E)) | ((with_reducible refine W_cond (fun h => ?_) (fun h => ?_)) <;> (try (exfalso; first | assumption | omega))) | ((first | (with_reducible first | refine G_region fun K E hK hE => ?_ | refine call_ret can32 (Swithin_S _ _ _ _ (by assumption) (by assumption) _) ?_ | refine W_if ?_ | refine W_ifS ?_ | refine W_and ?_) | ((with_reducible refine W_fresh (fun b hb => ?_)); (repeat (obtain ⟨_, hb⟩ := hb))) | ((with_reducible refine W_gd (fun h => ?_) (fun h => ?_)) <;> (try (exfalso; first | assumption | omega)))) <;> (try simp (disch := first | assumption | omega) only [go_sem, seval, List.length_map, hvl, *]))))
                all_goals (first | refine W_ret res21 hQ ?_ | refine W_norm res21 hQ ?_ | refine G_pan hQ ?_)
                rw [← show _ = R from HRF]
                exact ⟨_, s', Wk.refl _, Fg.refl _, s', GS.refl _, xb, bm, rfl, HFS.out, hSx⟩
end Go.Proofs.YtdibndmkeipgbaaGreatDoor
