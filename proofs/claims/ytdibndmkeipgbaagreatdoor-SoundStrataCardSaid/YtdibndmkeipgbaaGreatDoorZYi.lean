/- What is proved: What the document's parser of rules hands back, where it refuses nothing. Conditions: a text of fewer than 2^63 bytes. Conditions: those that stand in the statements. -/
import Derived.Test.YtdibndmkeipgbaaGreatDoorZYgj
import Derived.Test.YtdibndmkeipgbaaGreatDoorZNh
import Derived.Test.YtdibndmkeipgbaaGreatDoorZUk
import Derived.Test.YtdibndmkeipgbaaGreatDoorZRlj
set_option linter.unusedSimpArgs false
set_option linter.unusedVariables false
set_option maxRecDepth 100000
namespace Go.Proofs.YtdibndmkeipgbaaGreatDoor
open Go.RowKit
attribute [local go_sem] Rw_at Rw_mk2 Rw_free Rw_set Rw_gt Rw_dis Rw_own Rw_ok Rw_ownd
attribute [local go_sem] disown_fl owned_fl own_fl

theorem Rw_unpk {s : St} {p r e T' sz n i : Nat} {W : List Sgn} {o : Own} {c c' : Cell} (hpr : ¬ p = r) (ho : NotOwn o p) (hr : NotOwn o r) :
    ((Rw (s.set p c) r e W i).own o T' sz n).set p c' = Rw ((s.own o T' sz n).set p c') r e W i := by
  rw [Rw_own hr, own_push ho, Rw_set (by simp [hpr]), St.set_set]
theorem Rw_pack {s : St} {p r e T T' sz i n q : Nat} {W : List Sgn} {o : Own} {xs ys : List VV} {rs rs' : List (Nat × TypeId × Nat)} {l : List (List VV)} (hpr : ¬ p = r) (ho : NotOwn o p) (hr : NotOwn o r) (hO : OwnOk s o n) (hn : l.length = n)
    (hi : xs[i]? = some (.lst l o)) (hy : ys = xs.set i (.lst l .no)) (hrs : ∀ r, r ∈ rs' → r = (i, T', sz) ∨ (r ∈ rs ∧ r.1 ≠ i)) :
    GS (Rw ((s.own o T' sz n).set p (.pk T xs rs)) r e W q) (Rw (s.set p (.pk T ys rs')) r e W q) := by
  subst hy
  subst hn
  have h := GS.pack (s := Rw ((s.own o T' sz l.length).set p (.pk T xs rs)) r e W q) (b := p) (T := T) (xs := xs) (rs := rs) (rs' := rs') (i := i) (l := l) (o := o) (T' := T') (sz := sz)
    (by rw [Rw_gt hpr, St.set_same]) hi (by rw [Rw_ownd hr, owned_set ho, owned_own hO]; trivial) hrs
  rwa [Rw_dis hr, disown_set ho, disown_own hO, Rw_set (by simp [hpr]), St.set_set] at h
theorem roomU_lt {e hv m : Nat} {L L' : List Sgn} {u : Unit} (h : roomU e L hv m true = .ok (u, L')) : hv < m := by
  unfold roomU at h
  split at h
  · cases h
  · rename_i hc
    rcases Nat.lt_or_ge hv m with h1 | h1
    · exact h1
    · exact absurd ⟨h1, rfl⟩ hc
theorem domU_ok {e : Nat} {x y : Pgm} {L L' : List Sgn} (h : domU e x L = .ok (y, L')) : x.doms.length < 32 ∧ ∃ a b c d, L = a :: b :: c :: d :: L' ∧ a.text = [100, 111, 109] ∧ b.kind = 1 ∧ c.kind = 2 ∧ d.text = [46] ∧ y = ⟨x.doms ++ [⟨b.text, (numN c.text : Nat)⟩], x.decls, x.rules⟩ := by
  unfold domU at h
  cases h0 : roomU e L x.doms.length 32 true with
  | error q => rw [h0] at h; cases h
  | ok q =>
    obtain ⟨u, L0⟩ := q
    have hl := roomU_lt h0
    have e0 := roomU_okY h0
    subst e0
    rw [h0, bu_ok] at h
    cases h1 : mustU e L0 [100, 111, 109] with
    | error q => rw [h1] at h; cases h
    | ok q =>
      obtain ⟨u, L1⟩ := q
      obtain ⟨c1, rfl⟩ := mustU_ok h1
      rw [h1, bu_ok] at h
      cases h2 : nameU e L0.tail with
      | error q => rw [h2] at h; cases h
      | ok q =>
        obtain ⟨n, L2⟩ := q
        rw [h2, bu_ok] at h
        obtain ⟨b, hb, hbk, hbt⟩ := kindU_ok h2
        cases h3 : numU e L2 with
        | error q => rw [h3] at h; cases h
        | ok q =>
          obtain ⟨z, L3⟩ := q
          rw [h3, bu_ok] at h
          unfold numU at h3
          cases h3' : kindU e L2 2 with
          | error q => rw [h3'] at h3; cases h3
          | ok q =>
            obtain ⟨tx, L3'⟩ := q
            rw [h3', bu_ok] at h3
            injection h3 with h3; injection h3 with e1 e2
            subst e1; subst e2
            obtain ⟨c, hc, hck, hct⟩ := kindU_ok h3'
            cases h4 : mustU e L3' [46] with
            | error q => rw [h4] at h; cases h
            | ok q =>
              obtain ⟨u, L4⟩ := q
              obtain ⟨c4, rfl⟩ := mustU_ok h4
              rw [h4, bu_ok] at h
              injection h with h; injection h with e1 e2
              cases L0 with
              | nil => simp [isT] at c1
              | cons a L0 =>
                cases L3' with
                | nil => simp [isT] at c4
                | cons d L3' =>
                  simp only [List.tail_cons] at hb e2
                  refine ⟨hl, a, b, c, d, by rw [hb, hc, e2], by simpa [isT] using c1, hbk, hck, by simpa [isT] using c4, ?_⟩
                  rw [← e1, hbt, hct]
theorem relU_ok {e : Nat} {x y : Pgm} {L L' : List Sgn} (h : relU e x L = .ok (y, L')) : x.decls.length < 32 ∧ isT L 0 [114, 101, 108] = true ∧ ∃ d, declU e L.tail = .ok (d, L') ∧ y = ⟨x.doms, x.decls ++ [d], x.rules⟩ := by
  unfold relU at h
  cases h0 : roomU e L x.decls.length 32 true with
  | error q => rw [h0] at h; cases h
  | ok q =>
    obtain ⟨u, L0⟩ := q
    have hl := roomU_lt h0
    have e0 := roomU_okY h0
    subst e0
    rw [h0, bu_ok] at h
    cases h1 : mustU e L0 [114, 101, 108] with
    | error q => rw [h1] at h; cases h
    | ok q =>
      obtain ⟨u, L1⟩ := q
      obtain ⟨c1, rfl⟩ := mustU_ok h1
      rw [h1, bu_ok] at h
      refine ⟨hl, c1, ?_⟩
      unfold declU
      cases h2 : nameU e L0.tail with
      | error q => rw [h2] at h; cases h
      | ok q =>
        obtain ⟨n, L2⟩ := q
        rw [h2] at h
        simp only [bu_ok] at h ⊢
        cases h3 : listU e (nameU e) [1] L2 with
        | error q => rw [h3] at h; cases h
        | ok q =>
          obtain ⟨ds, L3⟩ := q
          rw [h3] at h
          simp only [bu_ok] at h ⊢
          cases h4 : mustU e L3 [46] with
          | error q => rw [h4] at h; cases h
          | ok q =>
            obtain ⟨u, L4⟩ := q
            rw [h4] at h
            simp only [bu_ok] at h ⊢
            injection h with h; injection h with e1 e2
            exact ⟨⟨n, ds⟩, by rw [e2], e1.symm⟩
theorem rulU_ok {e : Nat} {x y : Pgm} {L L' : List Sgn} (h : rulU e x L = .ok (y, L')) : x.rules.length < 64 ∧ ∃ a, ruleU e L = .ok (a, L') ∧ y = ⟨x.doms, x.decls, x.rules ++ [a]⟩ := by
  unfold rulU at h
  cases h0 : roomU e L x.rules.length 64 (nextB [1] L) with
  | error q => rw [h0] at h; cases h
  | ok q =>
    obtain ⟨u, L0⟩ := q
    have e0 := roomU_okY h0
    subst e0
    rw [h0, bu_ok] at h
    cases h1 : ruleU e L0 with
    | error q => rw [h1] at h; cases h
    | ok q =>
      obtain ⟨a, L1⟩ := q
      rw [h1, bu_ok] at h
      injection h with h; injection h with e1 e2
      subst e2
      refine ⟨?_, a, rfl, e1.symm⟩
      obtain ⟨M1, M2, hat, _⟩ := ruleU_ok h1
      obtain ⟨z, M3, M4, rfl, hk, _⟩ := atomU_ok hat
      have : nextB [1] (z :: M3) = true := by simp [nextB, hk]
      rw [this] at h0
      exact roomU_lt h0
theorem atm_small8 {a : Atm} (h : atmB a = true) : a.ts.length ≤ 8 := by
  simp only [atmB, Bool.and_eq_true, decide_eq_true_eq] at h
  exact h.2
theorem dcl_small8 {a : Dcl} (h : dclB a = true) : a.doms.length ≤ 8 := by
  simp only [dclB, Bool.and_eq_true, decide_eq_true_eq] at h
  exact h.1.2
theorem rul_small8 {a : Rul} (h : rulB a = true) : a.head.ts.length ≤ 8 ∧ a.body.length ≤ 8 ∧ ∀ x, x ∈ a.body → x.ts.length ≤ 8 := by
  simp only [rulB, Bool.and_eq_true, decide_eq_true_eq, List.all_eq_true] at h
  exact ⟨atm_small8 h.1.1.1.1.1, h.1.2, fun x hx => atm_small8 (h.2 x hx)⟩
set_option maxHeartbeats 8000000 in
theorem YParse_S (l : List UInt8) (hl : l.length ≤ 9223372036854775000) (x : Pgm) (hx : parseR l = .ok x) (s : St) : SRet Tryz.prog 22 [.str l] s (.tup [.agg (pgC x), .int .i64 0, .int .i64 0]) s := by
  have hsig := fun s => Rsigns_S l hl s
  cases hL : lexSigns l with
  | error q => unfold parseR at hx; rw [hL] at hx; cases hx
  | ok W =>
    rw [hL] at hsig
    simp only [signsV] at hsig
    rw [parseR_ok hL] at hx
    have hIn := lexSigns_in hL
    obtain ⟨hG, hWl⟩ := lexSigns_goodU hL
    have hw : W.length ≤ 40000 := by omega
    have hgo : ∃ Le, itemsU l.length (W.length + 1) ⟨[], [], []⟩ W = .ok (x, Le) := by
      cases hI : itemsU l.length (W.length + 1) ⟨[], [], []⟩ W with
      | error q => rw [hI] at hx; cases hx
      | ok q => obtain ⟨y, Le⟩ := q; rw [hI] at hx; injection hx with hx; subst hx; exact ⟨Le, rfl⟩
    obtain ⟨Le, hgo⟩ := hgo
    have HGO := Lib.hid hgo
    have HIN := Lib.hid hIn
    have HG := Lib.hid hG
    clear hx hL hgo hIn hG
    generalize hle : l.length = e at *
    refine G_enter Tryz.func22 rfl Tryz.ntmps22 rfl fun Q hQ hQe => ?_
    (repeat' (first | refine Ctl ?_ | ((with_reducible refine Kof.use hK ?_); clear hK hE K E) | ((with_reducible refine Eof.use hE ?_); (try clear hK hE K E)) | ((with_reducible refine Kof.use hKh ?_); clear hKh Kh) | ((with_reducible refine Kof.use hKb (P_next ?_)); clear hKb Kb) | (with_reducible first | refine G_plan 6 [] [0, 1, 2, 3, 4, 5, 6, 7, 8, 9, 10, 11, 12, 13, 14, 15, 16] hQe fun K E hK hE => ?_ | refine G_plan 20 [([0, 1, 2], 3, [[0, 1]]), ([4], 5, [[], []]), ([6], 7, [[], [], []])] [] hQe fun K E hK hE => ?_ | refine G_plan 7 [([0, 1, 2, 3, 4], 5, [[0, 1, 2, 3]]), ([], 6, [[], []])] [] hQe fun K E hK hE => ?_ | refine G_plan 8 [([0, 1, 2], 3, [[0, 1]]), ([4], 5, [[], []]), ([6], 7, [[], [], []])] [] hQe fun K E hK hE => ?_ | refine G_plan 22 [([0, 1, 2, 3, 4, 5, 6, 7, 8], 9, [[1, 2, 3, 4, 5, 6, 7, 8]])] [10, 11] hQe fun K E hK hE => ?_) | ((with_reducible refine W_cond (fun h => ?_) (fun h => ?_)) <;> (try (exfalso; first | assumption | omega))) | ((first | (with_reducible first | refine G_region fun K E hK hE => ?_ | refine call_ret can33 (hsig _) ?_ | refine call_ret can33 (Rsigns_S _ (by first | assumption | omega) _) ?_ | refine call_ret can37 (Atoi_S _ _ (by first | assumption | omega) (by assumption) _) ?_ | refine call_ret can34 (Yis_S _ _ _ _ _ _ (by assumption)) ?_ | refine call_ret can38 (Ytakes_S _ _ _ _ _ _ (by assumption) (by assumption)) ?_ | refine call_ret can36 (Ykind_S _ _ _ _ _ _ _ (by assumption) (by assumption) (by assumption)) ?_ | refine call_ret can35 (Yroom_S _ _ _ _ _ _ _ _ (by first | assumption | omega)) ?_ | refine W_if ?_ | refine W_ifS ?_ | refine P_heads fun Kh hKh => ?_ | refine P_fin fun Kh hKh => ?_ | refine P_each fun Kb hKb => ?_ | refine W_and ?_) | ((with_reducible refine call_ex can40 (Ynext_S _ _ _ _ _ _ _ _ (by assumption)) (fun a h => ?_))) | ((with_reducible refine W_fresh (fun b hb => ?_)); (repeat (obtain ⟨_, hb⟩ := hb))) | ((with_reducible refine W_app (fun o2 ho => ?_)); (try simp (disch := assumption) only [disown_set, disown_own, ownok_o, ownok_m, List.length_map, List.length_cons, List.length_nil, Nat.zero_add, hle] at ho); (repeat (obtain ⟨_, ho⟩ := ho))) | ((with_reducible refine W_gd (fun h => ?_) (fun h => ?_)) <;> (try (exfalso; first | assumption | omega)))) <;> (try simp (disch := first | assumption | omega) only [go_sem, seval, hle, *]))))
    rename_i bz hbz r z5 z6 hr z7 z8 z9 z10
    obtain ⟨bp, hbp⟩ : ∃ x, x = b := ⟨_, rfl⟩
    subst hbp
    clear hsig h
    have hBz : (s.set bz (.obj 26 [.lst [] .full, .lst [] .full, .lst [] .full])) bz = .obj 26 [.lst [] .full, .lst [] .full, .lst [] .full] := St.set_same _ _ _
    have hBf : Fg (s.set bz (.obj 26 [.lst [] .full, .lst [] .full, .lst [] .full])) s := Fg.of_set _ hbz
    have hBr : (s.set bz (.obj 26 [.lst [] .full, .lst [] .full, .lst [] .full])) r = .free := by rw [St.set_other _ _ z5]; exact hr
    have hBp : (s.set bz (.obj 26 [.lst [] .full, .lst [] .full, .lst [] .full])) bp = .free := by rw [St.set_other _ _ z9]; exact hb
    change Kp _ _ _ _ _ _ _ ((Rw (s.set bz (.obj 26 [.lst [] .full, .lst [] .full, .lst [] .full])) r e W 0).set bp (.obj 26 [.lst [] .full, .lst [] .full, .lst [] .full]))
    generalize s.set bz (.obj 26 [.lst [] .full, .lst [] .full, .lst [] .full]) = B at *
    have HBF := Lib.hid hBf
    have HBR := Lib.hid hBr
    have HBP := Lib.hid hBp
    have HZ := Lib.hid (And.intro hbz (And.intro hr hb))
    clear hBf hbz hr hb hBr hBp
    refine Kp_gs (GS.pg0 (St.set_same _ _ _)) ?_
    rw [St.set_set, Rw_set z7]
    refine G_loopS (fun m env t => ∃ (q f : Nat) (y : Pgm) (Lq : List Sgn), Sfx W q Lq ∧ GoodU Lq ∧ InU e Lq ∧ pgmB y = true ∧ itemsU e f y Lq = .ok (x, Le) ∧ m = Lq.length ∧ t = Rw (B.set bp (.pk 26 (pgC y) rsP)) r e W q ∧
      env 2 = .ptr bz 0 ∧ env 8 = .ptr r 0 ∧ env 9 = .ptr bp 0) W.length ?_ ?_
    · exact ⟨_, GS.refl _, 0, _, ⟨[], [], []⟩, W, ⟨by omega, rfl⟩, HG.out, HIN.out, by decide, HGO.out, rfl, rfl, z_sl, z_sl, z_sl⟩
    · clear HGO HIN HG
      rintro m env t ⟨q, f, y, Lq, hS, hGq, hIq, hy, hgo, rfl, rfl, e2, e8, e9⟩
      have hql := hS.1
      have hwm : (W.map sgnC).length = W.length := List.length_map _
      cases f with
      | zero => cases hgo
      | succ f =>
        simp only [itemsU] at hgo
        by_cases hnil : Lq = []
        · rw [if_pos hnil] at hgo
          injection hgo with hgo; injection hgo with hgo _
          subst hnil
          have hqe := hS.nil
          subst hqe
          subst hgo
          simp only [pgC]
          clear hS hGq hIq
          (repeat' (first | refine Ctl ?_ | ((with_reducible refine Kof.use hK ?_); clear hK hE K E) | ((with_reducible refine Eof.use hE ?_); (try clear hK hE K E)) | ((with_reducible refine Kof.use hKh ?_); clear hKh Kh) | ((with_reducible refine Kof.use hKb (P_next ?_)); clear hKb Kb) | (with_reducible first | refine G_plan 6 [] [0, 1, 2, 3, 4, 5, 6, 7, 8, 9, 10, 11, 12, 13, 14, 15, 16] hQe fun K E hK hE => ?_ | refine G_plan 20 [([0, 1, 2], 3, [[0, 1]]), ([4], 5, [[], []]), ([6], 7, [[], [], []])] [] hQe fun K E hK hE => ?_ | refine G_plan 7 [([0, 1, 2, 3, 4], 5, [[0, 1, 2, 3]]), ([], 6, [[], []])] [] hQe fun K E hK hE => ?_ | refine G_plan 8 [([0, 1, 2], 3, [[0, 1]]), ([4], 5, [[], []]), ([6], 7, [[], [], []])] [] hQe fun K E hK hE => ?_ | refine G_plan 22 [([0, 1, 2, 3, 4, 5, 6, 7, 8], 9, [[1, 2, 3, 4, 5, 6, 7, 8]])] [10, 11] hQe fun K E hK hE => ?_) | ((with_reducible refine W_cond (fun h => ?_) (fun h => ?_)) <;> (try (exfalso; first | assumption | omega))) | ((first | (with_reducible first | refine G_region fun K E hK hE => ?_ | refine call_ret can33 (Rsigns_S _ (by first | assumption | omega) _) ?_ | refine call_ret can37 (Atoi_S _ _ (by first | assumption | omega) (by assumption) _) ?_ | refine call_ret can34 (Yis_S _ _ _ _ _ _ (by assumption)) ?_ | refine call_ret can38 (Ytakes_S _ _ _ _ _ _ (by assumption) (by assumption)) ?_ | refine call_ret can36 (Ykind_S _ _ _ _ _ _ _ (by assumption) (by assumption) (by assumption)) ?_ | refine call_ret can35 (Yroom_S _ _ _ _ _ _ _ _ (by first | assumption | omega)) ?_ | refine W_if ?_ | refine W_ifS ?_ | refine P_heads fun Kh hKh => ?_ | refine P_fin fun Kh hKh => ?_ | refine P_each fun Kb hKb => ?_ | refine W_and ?_) | ((with_reducible refine call_ex can40 (Ynext_S _ _ _ _ _ _ _ _ (by assumption)) (fun a h => ?_))) | ((with_reducible refine W_fresh (fun b hb => ?_)); (repeat (obtain ⟨_, hb⟩ := hb))) | ((with_reducible refine W_app (fun o2 ho => ?_)); (try simp (disch := assumption) only [disown_set, disown_own, ownok_o, ownok_m, List.length_map, List.length_cons, List.length_nil, Nat.zero_add, hwm, Rw_ok, Rw_dis, Rw_own, Rw_ownd, disown_fl, owned_fl, ownok_pk, or_true, if_true] at ho); (repeat (obtain ⟨_, ho⟩ := ho))) | ((with_reducible refine W_gd (fun h => ?_) (fun h => ?_)) <;> (try (exfalso; first | assumption | omega)))) <;> (try simp (disch := first | assumption | omega) only [go_sem, seval, hwm, Rw_ok, Rw_dis, Rw_own, Rw_ownd, disown_fl, owned_fl, ownok_pk, or_true, if_true, *]))))
          all_goals (first | refine W_ret res22 hQ ?_ | refine W_norm res22 hQ ?_ | refine G_pan hQ ?_)
          all_goals (refine ⟨_, _, Wk.of_eq ?_, ?_, rfl, rfl⟩)
          · rfl
          · exact Fg.setA (Fg.setA (Fg.setA HBF.out HZ.out.2.2) HZ.out.1) HZ.out.2.1
        · rw [if_neg hnil] at hgo
          have hqlt : q < W.length := by
            rcases Nat.lt_or_ge q W.length with h | h
            · exact h
            · have := hS.2; rw [List.drop_eq_nil_of_le h] at this; exact absurd this.symm hnil
          cases hit : itemU e y Lq with
          | error q => rw [hit] at hgo; cases hgo
          | ok qq =>
            obtain ⟨y2, L2⟩ := qq
            rw [hit, bu_ok] at hgo
            have hpl := PlU.item hy hIq
            rw [hit] at hpl
            obtain ⟨hy2, hI2, hlt⟩ := hpl
            have HGO := Lib.hid hgo
            have HY2 := Lib.hid hy2
            have HI2 := Lib.hid hI2
            have HLT := Lib.hid hlt
            have v0 := fun s t => Yis_S s r e q W t hql
            clear hgo hI2 hlt hIq hy
            unfold itemU at hit
            by_cases hd : isT Lq 0 [100, 111, 109] = true
            · rw [if_pos hd] at hit
              obtain ⟨hn, a, b1, c, d, rfl, ha, hb1, hc, hdd, rfl⟩ := domU_ok hit
              obtain ⟨g0, s1, _⟩ := hS.cons
              obtain ⟨g1, s2, _⟩ := s1.cons
              obtain ⟨g2, s3, _⟩ := s2.cons
              obtain ⟨g3, s4, _⟩ := s3.cons
              have hG4 : GoodU L2 := fun z hz => hGq z (by simp [hz])
              have HG4 := Lib.hid hG4
              have HS4 := Lib.hid s4
              have v1 := fun s => Yis_S s r e q W [100, 111, 109] hql
              rw [show isT W q [100, 111, 109] = true by simp [isT, g0, ha]] at v1
              have v2 := fun s => Yroom_S s r e q W (y.doms.length : Int) 32 true (by omega)
              have v3 := fun s => Ykind_S s r e (q + 1) W b1 1 hw g1 hb1
              have v4 := fun s => Ykind_S s r e (q + 1 + 1) W c 2 hw g2 hc
              obtain ⟨n, hn2, hnl⟩ := hGq c (by simp) hc
              have hnn : numN c.text = n := by simp [numN, hn2]
              have v5 := fun s => Atoi_S c.text n hnl hn2 s
              have v6 := fun s => Ytakes_S s r e (q + 1 + 1 + 1) W [46] hw (by simp [isT, g3, hdd])
              have hdl : (y.doms.map dmC).length = y.doms.length := List.length_map _
              clear hit hd hS hGq s1 s2 s3 s4 g0 g1 g2 g3 hG4 ha hb1 hc hdd hn2 hnl v0
              rw [hnn] at HY2 HGO
              clear hnn
              refine Kp_unpk bp 0 (T' := 42) (sz := 2) [(1, 44, 2), (2, 50, 4)] ((Rw_gt z7).trans (St.set_same _ _ _)) rfl (by simp) (by simp) ?_
              intro o hO hop
              have hor : NotOwn o r := hO.not (by simp only [Rw_at]; simp)
              rw [Rw_unpk z7 hop hor]
              simp only [Rw_ok, ownok_pk, hdl, pgC, List.set] at hO ⊢
              obtain ⟨_, _, hO⟩ := hO
              (repeat' (first | refine Ctl ?_ | ((with_reducible refine Kof.use hK ?_); clear hK hE K E) | ((with_reducible refine Eof.use hE ?_); (try clear hK hE K E)) | ((with_reducible refine Kof.use hKh ?_); clear hKh Kh) | ((with_reducible refine Kof.use hKb (P_next ?_)); clear hKb Kb) | (with_reducible first | refine G_plan 6 [] [0, 1, 2, 3, 4, 5, 6, 7, 8, 9, 10, 11, 12, 13, 14, 15, 16] hQe fun K E hK hE => ?_ | refine G_plan 20 [([0, 1, 2], 3, [[0, 1]]), ([4], 5, [[], []]), ([6], 7, [[], [], []])] [] hQe fun K E hK hE => ?_ | refine G_plan 7 [([0, 1, 2, 3, 4], 5, [[0, 1, 2, 3]]), ([], 6, [[], []])] [] hQe fun K E hK hE => ?_ | refine G_plan 8 [([0, 1, 2], 3, [[0, 1]]), ([4], 5, [[], []]), ([6], 7, [[], [], []])] [] hQe fun K E hK hE => ?_ | refine G_plan 22 [([0, 1, 2, 3, 4, 5, 6, 7, 8], 9, [[1, 2, 3, 4, 5, 6, 7, 8]])] [10, 11] hQe fun K E hK hE => ?_) | ((with_reducible refine W_cond (fun h => ?_) (fun h => ?_)) <;> (try (exfalso; first | assumption | omega))) | ((first | (with_reducible first | refine G_region fun K E hK hE => ?_ | refine call_ret can34 (v1 _) ?_ | refine call_ret can35 (v2 _) ?_ | refine call_ret can36 (v3 _) ?_ | refine call_ret can36 (v4 _) ?_ | refine call_ret can37 (v5 _) ?_ | refine call_ret can38 (v6 _) ?_ | refine call_ret can33 (Rsigns_S _ (by first | assumption | omega) _) ?_ | refine call_ret can37 (Atoi_S _ _ (by first | assumption | omega) (by assumption) _) ?_ | refine call_ret can34 (Yis_S _ _ _ _ _ _ (by assumption)) ?_ | refine call_ret can38 (Ytakes_S _ _ _ _ _ _ (by assumption) (by assumption)) ?_ | refine call_ret can36 (Ykind_S _ _ _ _ _ _ _ (by assumption) (by assumption) (by assumption)) ?_ | refine call_ret can35 (Yroom_S _ _ _ _ _ _ _ _ (by first | assumption | omega)) ?_ | refine W_if ?_ | refine W_ifS ?_ | refine P_heads fun Kh hKh => ?_ | refine P_fin fun Kh hKh => ?_ | refine P_each fun Kb hKb => ?_ | refine W_and ?_) | ((with_reducible refine call_ex can40 (Ynext_S _ _ _ _ _ _ _ _ (by assumption)) (fun a h => ?_))) | ((with_reducible refine W_fresh (fun b hb => ?_)); (repeat (obtain ⟨_, hb⟩ := hb)); (try (try (rw [own_fr] at hb; obtain ⟨hob, hb⟩ := hb)))) | ((with_reducible refine W_app (fun o2 ho => ?_)); (try simp (disch := assumption) only [disown_set, disown_own, ownok_o, ownok_m, List.length_map, List.length_cons, List.length_nil, Nat.zero_add, hwm, hdl, dmC, Rw_ok, Rw_dis, Rw_own, Rw_ownd, disown_fl, owned_fl, ownok_pk, or_true, if_true] at ho); (repeat (obtain ⟨_, ho⟩ := ho))) | ((with_reducible refine W_gd (fun h => ?_) (fun h => ?_)) <;> (try (exfalso; first | assumption | omega)))) <;> (try simp (disch := first | assumption | omega) only [go_sem, seval, hwm, hdl, dmC, Rw_ok, Rw_dis, Rw_own, Rw_ownd, disown_fl, owned_fl, ownok_pk, or_true, if_true, *]))))
              exact ⟨Rw (B.set bp (.pk 26 (pgC ⟨y.doms ++ [⟨b1.text, (n : Nat)⟩], y.decls, y.rules⟩) rsP)) r e W (q + 1 + 1 + 1 + 1), GS.trans (GS.of_fg (Fg.rw (Fg.of_set _ (by rw [St.set_other _ _ (by assumption), own_fr]; exact ⟨by assumption, hb⟩)))) (Rw_pack z7 (by assumption) (by assumption) ho (by simp) (i := 0) rfl (by simp [pgC, dmC]) (by simp)), L2.length, HLT.out, q + 1 + 1 + 1 + 1, f, ⟨y.doms ++ [⟨b1.text, (n : Nat)⟩], y.decls, y.rules⟩, L2, HS4.out, HG4.out, HI2.out, HY2.out, HGO.out, rfl, rfl, z_sl, z_sl, z_sl⟩
            · rw [if_neg hd] at hit
              have hdf : isT Lq 0 [100, 111, 109] = false := by simpa using hd
              have v1 := fun s => Yis_S s r e q W [100, 111, 109] hql
              rw [hS.isT, hdf] at v1
              have v2 := fun s => Yis_S s r e q W [114, 101, 108] hql
              rw [hS.isT] at v2
              by_cases hr : isT Lq 0 [114, 101, 108] = true
              · rw [if_pos hr] at hit
                obtain ⟨hn, hc, d, hdc, rfl⟩ := relU_ok hit
                rw [hr] at v2
                have g1 := hS.tail hc
                have hsuf : L2 <:+ Lq.tail := by
                  obtain ⟨z, M1, M3, hM, _, _, _, hgo, _, _, rfl⟩ := declU_ok hdc
                  rw [hM]
                  exact (((suf_tail.trans suf_tail).trans (listGo_suf (fun _ _ _ h => by obtain ⟨z, rfl, _⟩ := kindU_ok h; exact List.suffix_cons _ _) _ hgo)).trans suf_tail).trans (List.suffix_cons _ _)
                obtain ⟨q2, s2⟩ := g1.suf hsuf
                have hG4 : GoodU L2 := suf_good (hsuf.trans suf_tail) hGq
                have HG4 := Lib.hid hG4
                have HS4 := Lib.hid s2
                have h8 : d.doms.length ≤ 8 := by
                  have := (pgmB_to HY2.out).2.2.2.2.1 d (by simp)
                  exact (dcl_small8 this)
                have v3 := fun s => Yroom_S s r e q W (y.decls.length : Int) 32 true (by omega)
                have v4 := fun s => Ydecl_S s r e (q + 1) q2 W _ L2 d hw g1 hdc s2 h8
                have hdl : (y.decls.map dclC).length = y.decls.length := List.length_map _
                obtain ⟨dn, dd⟩ := d
                simp only [dclC] at v4
                clear hit hd hr hc hS hGq s2 g1 hG4 v0 hdf hdc hsuf
                refine Kp_unpk bp 1 (T' := 44) (sz := 2) [(0, 42, 2), (2, 50, 4)] ((Rw_gt z7).trans (St.set_same _ _ _)) rfl (by simp) (by simp) ?_
                intro o hO hop
                have hor : NotOwn o r := hO.not (by simp only [Rw_at]; simp)
                rw [Rw_unpk z7 hop hor]
                simp only [Rw_ok, ownok_pk, hdl, pgC, List.set] at hO ⊢
                obtain ⟨_, _, hO⟩ := hO
                (repeat' (first | refine Ctl ?_ | ((with_reducible refine Kof.use hK ?_); clear hK hE K E) | ((with_reducible refine Eof.use hE ?_); (try clear hK hE K E)) | ((with_reducible refine Kof.use hKh ?_); clear hKh Kh) | ((with_reducible refine Kof.use hKb (P_next ?_)); clear hKb Kb) | (with_reducible first | refine G_plan 6 [] [0, 1, 2, 3, 4, 5, 6, 7, 8, 9, 10, 11, 12, 13, 14, 15, 16] hQe fun K E hK hE => ?_ | refine G_plan 20 [([0, 1, 2], 3, [[0, 1]]), ([4], 5, [[], []]), ([6], 7, [[], [], []])] [] hQe fun K E hK hE => ?_ | refine G_plan 7 [([0, 1, 2, 3, 4], 5, [[0, 1, 2, 3]]), ([], 6, [[], []])] [] hQe fun K E hK hE => ?_ | refine G_plan 8 [([0, 1, 2], 3, [[0, 1]]), ([4], 5, [[], []]), ([6], 7, [[], [], []])] [] hQe fun K E hK hE => ?_ | refine G_plan 22 [([0, 1, 2, 3, 4, 5, 6, 7, 8], 9, [[1, 2, 3, 4, 5, 6, 7, 8]])] [10, 11] hQe fun K E hK hE => ?_) | ((with_reducible refine W_cond (fun h => ?_) (fun h => ?_)) <;> (try (exfalso; first | assumption | omega))) | ((first | (with_reducible first | refine G_region fun K E hK hE => ?_ | refine call_ret can34 (v1 _) ?_ | refine call_ret can34 (v2 _) ?_ | refine call_ret can35 (v3 _) ?_ | refine call_ret can39 (v4 _) ?_ | refine call_ret can33 (Rsigns_S _ (by first | assumption | omega) _) ?_ | refine call_ret can37 (Atoi_S _ _ (by first | assumption | omega) (by assumption) _) ?_ | refine call_ret can34 (Yis_S _ _ _ _ _ _ (by assumption)) ?_ | refine call_ret can38 (Ytakes_S _ _ _ _ _ _ (by assumption) (by assumption)) ?_ | refine call_ret can36 (Ykind_S _ _ _ _ _ _ _ (by assumption) (by assumption) (by assumption)) ?_ | refine call_ret can35 (Yroom_S _ _ _ _ _ _ _ _ (by first | assumption | omega)) ?_ | refine W_if ?_ | refine W_ifS ?_ | refine P_heads fun Kh hKh => ?_ | refine P_fin fun Kh hKh => ?_ | refine P_each fun Kb hKb => ?_ | refine W_and ?_) | ((with_reducible refine call_ex can40 (Ynext_S _ _ _ _ _ _ _ _ (by assumption)) (fun a h => ?_))) | ((with_reducible refine W_fresh (fun b hb => ?_)); (repeat (obtain ⟨_, hb⟩ := hb))) | ((with_reducible refine W_app (fun o2 ho => ?_)); (try simp (disch := assumption) only [disown_set, disown_own, ownok_o, ownok_m, List.length_map, List.length_cons, List.length_nil, Nat.zero_add, hwm, hdl, dclC, Rw_ok, Rw_dis, Rw_own, Rw_ownd, disown_fl, owned_fl, ownok_pk, or_true, if_true] at ho); (repeat (obtain ⟨_, ho⟩ := ho))) | ((with_reducible refine W_gd (fun h => ?_) (fun h => ?_)) <;> (try (exfalso; first | assumption | omega)))) <;> (try simp (disch := first | assumption | omega) only [go_sem, seval, hwm, hdl, dclC, Rw_ok, Rw_dis, Rw_own, Rw_ownd, disown_fl, owned_fl, ownok_pk, or_true, if_true, *]))))
                exact ⟨Rw (B.set bp (.pk 26 (pgC ⟨y.doms, y.decls ++ [⟨dn, dd⟩], y.rules⟩) rsP)) r e W (q2), Rw_pack z7 (by assumption) (by assumption) ho (by simp) (i := 1) rfl (by simp [pgC, dclC]) (by simp), L2.length, HLT.out, q2, f, ⟨y.doms, y.decls ++ [⟨dn, dd⟩], y.rules⟩, L2, HS4.out, HG4.out, HI2.out, HY2.out, HGO.out, rfl, rfl, z_sl, z_sl, z_sl⟩
              · rw [if_neg hr] at hit
                have hrf : isT Lq 0 [114, 101, 108] = false := by simpa using hr
                obtain ⟨hn, a, hra, rfl⟩ := rulU_ok hit
                rw [hrf] at v2
                have hsuf : L2 <:+ Lq := by
                  obtain ⟨M1, M2, hat, hbd, _, rfl⟩ := ruleU_ok hra
                  rcases hbd with ⟨_, hgo⟩ | ⟨_, _, rfl⟩
                  · exact ((suf_tail.trans (bodyGo_more _ hgo).2.2).trans suf_tail).trans (atomU_suf hat)
                  · exact suf_tail.trans (atomU_suf hat)
                obtain ⟨q2, s2⟩ := hS.suf hsuf
                have hG4 : GoodU L2 := suf_good hsuf hGq
                have HG4 := Lib.hid hG4
                have HS4 := Lib.hid s2
                have hra2 := (pgmB_to HY2.out).2.2.2.2.2 a (by simp)
                obtain ⟨k1, k2, k3⟩ := rul_small8 hra2
                have v3 := fun s a b t => Ynext_S s r e q W a b t hql
                have v4 := fun s b => Yroom_S s r e q W (y.rules.length : Int) 64 b (by omega)
                have v5 := fun s => Yrule_S s r e q q2 W _ L2 a hw hGq hS hra s2 k1 k2 k3
                have hdl : (y.rules.map rulC).length = y.rules.length := List.length_map _
                obtain ⟨⟨an, ar, ats⟩, abd⟩ := a
                simp only [rulC] at v5
                clear hit hd hr hS hGq s2 hG4 v0 hdf hra hrf hsuf hra2 k1 k2 k3
                refine Kp_unpk bp 2 (T' := 50) (sz := 4) [(0, 42, 2), (1, 44, 2)] ((Rw_gt z7).trans (St.set_same _ _ _)) rfl (by simp) (by simp) ?_
                intro o hO hop
                have hor : NotOwn o r := hO.not (by simp only [Rw_at]; simp)
                rw [Rw_unpk z7 hop hor]
                simp only [Rw_ok, ownok_pk, hdl, pgC, List.set] at hO ⊢
                obtain ⟨_, _, hO⟩ := hO
                (repeat' (first | refine Ctl ?_ | ((with_reducible refine Kof.use hK ?_); clear hK hE K E) | ((with_reducible refine Eof.use hE ?_); (try clear hK hE K E)) | ((with_reducible refine Kof.use hKh ?_); clear hKh Kh) | ((with_reducible refine Kof.use hKb (P_next ?_)); clear hKb Kb) | (with_reducible first | refine G_plan 6 [] [0, 1, 2, 3, 4, 5, 6, 7, 8, 9, 10, 11, 12, 13, 14, 15, 16] hQe fun K E hK hE => ?_ | refine G_plan 20 [([0, 1, 2], 3, [[0, 1]]), ([4], 5, [[], []]), ([6], 7, [[], [], []])] [] hQe fun K E hK hE => ?_ | refine G_plan 7 [([0, 1, 2, 3, 4], 5, [[0, 1, 2, 3]]), ([], 6, [[], []])] [] hQe fun K E hK hE => ?_ | refine G_plan 8 [([0, 1, 2], 3, [[0, 1]]), ([4], 5, [[], []]), ([6], 7, [[], [], []])] [] hQe fun K E hK hE => ?_ | refine G_plan 22 [([0, 1, 2, 3, 4, 5, 6, 7, 8], 9, [[1, 2, 3, 4, 5, 6, 7, 8]])] [10, 11] hQe fun K E hK hE => ?_) | ((with_reducible refine W_cond (fun h => ?_) (fun h => ?_)) <;> (try (exfalso; first | assumption | omega))) | ((first | (with_reducible first | refine G_region fun K E hK hE => ?_ | refine call_ret can34 (v1 _) ?_ | refine call_ret can34 (v2 _) ?_ | refine call_ret can35 (v4 _ _) ?_ | refine call_ret can41 (v5 _) ?_ | refine call_ret can33 (Rsigns_S _ (by first | assumption | omega) _) ?_ | refine call_ret can37 (Atoi_S _ _ (by first | assumption | omega) (by assumption) _) ?_ | refine call_ret can34 (Yis_S _ _ _ _ _ _ (by assumption)) ?_ | refine call_ret can38 (Ytakes_S _ _ _ _ _ _ (by assumption) (by assumption)) ?_ | refine call_ret can36 (Ykind_S _ _ _ _ _ _ _ (by assumption) (by assumption) (by assumption)) ?_ | refine call_ret can35 (Yroom_S _ _ _ _ _ _ _ _ (by first | assumption | omega)) ?_ | refine W_if ?_ | refine W_ifS ?_ | refine P_heads fun Kh hKh => ?_ | refine P_fin fun Kh hKh => ?_ | refine P_each fun Kb hKb => ?_ | refine W_and ?_) | ((with_reducible refine call_ex can40 (v3 _ _ _ _) (fun a h => ?_))) | ((with_reducible refine call_ex can40 (Ynext_S _ _ _ _ _ _ _ _ (by assumption)) (fun a h => ?_))) | ((with_reducible refine W_fresh (fun b hb => ?_)); (repeat (obtain ⟨_, hb⟩ := hb))) | ((with_reducible refine W_app (fun o2 ho => ?_)); (try simp (disch := assumption) only [disown_set, disown_own, ownok_o, ownok_m, List.length_map, List.length_cons, List.length_nil, Nat.zero_add, hwm, hdl, rulC, Rw_ok, Rw_dis, Rw_own, Rw_ownd, disown_fl, owned_fl, ownok_pk, or_true, if_true] at ho); (repeat (obtain ⟨_, ho⟩ := ho))) | ((with_reducible refine W_gd (fun h => ?_) (fun h => ?_)) <;> (try (exfalso; first | assumption | omega)))) <;> (try simp (disch := first | assumption | omega) only [go_sem, seval, hwm, hdl, rulC, Rw_ok, Rw_dis, Rw_own, Rw_ownd, disown_fl, owned_fl, ownok_pk, or_true, if_true, *]))))
                exact ⟨Rw (B.set bp (.pk 26 (pgC ⟨y.doms, y.decls, y.rules ++ [⟨⟨an, ar, ats⟩, abd⟩]⟩) rsP)) r e W (q2), Rw_pack z7 (by assumption) (by assumption) ho (by simp) (i := 2) rfl (by simp [pgC, rulC]) (by simp), L2.length, HLT.out, q2, f, ⟨y.doms, y.decls, y.rules ++ [⟨⟨an, ar, ats⟩, abd⟩]⟩, L2, HS4.out, HG4.out, HI2.out, HY2.out, HGO.out, rfl, rfl, z_sl, z_sl, z_sl⟩
end Go.Proofs.YtdibndmkeipgbaaGreatDoor
