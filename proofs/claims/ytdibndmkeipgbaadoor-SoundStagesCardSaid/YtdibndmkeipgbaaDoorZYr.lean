/- What is proved: What SoundStages hands back. Conditions: what fits a memory. Conditions: those that stand in the statements. -/
import Derived.Test.YtdibndmkeipgbaaDoorZYpj
import Derived.Test.YtdibndmkeipgbaaDoorZNaj
set_option linter.unusedSimpArgs false
set_option linter.unusedVariables false
set_option maxRecDepth 100000
namespace Go.Proofs.YtdibndmkeipgbaaDoor
open Go.RowKit

theorem sound_bad {x : Pgm} (h : (soundP x).2.1 ≠ 0) : (soundP x).2.2 = [] := by
  unfold soundP at h ⊢
  by_cases hr : readE x = 0
  · rw [if_neg (by simp [hr])] at h ⊢
    cases hb : badR x 0 x.rules with
    | some q => rfl
    | none =>
      rw [hb] at h
      simp only at h ⊢
      cases hs : stgP x with
      | none => rfl
      | some l => rw [hs] at h; exact absurd rfl h
  · rw [if_pos hr]
theorem badR_err {p : Pgm} : ∀ (l : List Rul) (k i : Nat) (e : Int), badR p k l = some (i, e) → e ≠ 0
  | [], _, _, _, h => by cases h
  | a :: l, k, i, e, h => by
    simp only [badR] at h
    cases ha : scopeS p a with
    | error e' => rw [ha] at h; injection h with h; injection h with h1 h2; subst h2; exact scopeS_err ha
    | ok Y => rw [ha] at h; exact badR_err l (k + 1) i e h
theorem sound_ok {x : Pgm} (h : (soundP x).2.1 = 0) : ∃ l, soundP x = (-1, 0, l) ∧ readE x = 0 ∧ badR x 0 x.rules = none ∧ stgP x = some l := by
  unfold soundP at h ⊢
  by_cases hr : readE x = 0
  · rw [if_neg (by simp [hr])] at h ⊢
    cases hb : badR x 0 x.rules with
    | some q => rw [hb] at h; obtain ⟨k, e⟩ := q; exact absurd h (badR_err _ _ _ _ hb)
    | none =>
      rw [hb] at h
      simp only at h ⊢
      cases hs : stgP x with
      | none => rw [hs] at h; cases h
      | some l => exact ⟨l, rfl, hr, trivial, rfl⟩
  · rw [if_pos hr] at h; exact absurd h hr
theorem atomS_z {p : Pgm} {X Y : Scp} {a : Atm} (h : atomS p X a = .ok Y) : relZ p.decls a.rel = (ixR p a.rel : Int) := by
  unfold atomS at h
  unfold ixR relZ
  cases hk : relI p.decls a.rel with
  | none => rw [hk] at h; cases h
  | some k => rfl
theorem atomsS_z {p : Pgm} : ∀ (l : List Atm) {X Y : Scp}, atomsS p X l = .ok Y → ∀ a, a ∈ l → relZ p.decls a.rel = (ixR p a.rel : Int)
  | [], _, _, _, a, ha => by cases ha
  | b :: l, X, Y, h, a, ha => by
    simp only [atomsS] at h
    cases hb : atomS p X b with
    | error e => rw [hb] at h; cases h
    | ok Z =>
      rw [hb, eb_ok] at h
      rcases List.mem_cons.1 ha with rfl | ha
      · exact atomS_z hb
      · exact atomsS_z l h a ha
theorem scopeS_z {p : Pgm} {r : Rul} {Y : Scp} (h : scopeS p r = .ok Y) : relZ p.decls r.head.rel = (ixR p r.head.rel : Int) ∧ ∀ a, a ∈ r.body → relZ p.decls a.rel = (ixR p a.rel : Int) := by
  unfold scopeS at h
  cases h1 : atomS p ⟨[], []⟩ r.head with
  | error e => rw [h1] at h; cases h
  | ok X =>
    rw [h1, eb_ok] at h
    cases h2 : atomsS p X r.body with
    | error e => rw [h2] at h; cases h
    | ok Z => exact ⟨atomS_z h1, atomsS_z _ h2⟩
theorem sound_rel {x : Pgm} (h : badR x 0 x.rules = none) {r : Rul} (hr : r ∈ x.rules) :
    (ixR x r.head.rel < x.decls.length ∧ relZ x.decls r.head.rel = (ixR x r.head.rel : Int)) ∧ ∀ a, a ∈ r.body → ixR x a.rel < x.decls.length ∧ relZ x.decls a.rel = (ixR x a.rel : Int) := by
  obtain ⟨Y, hY⟩ := badR_all _ _ h r hr
  have h1 := scopeS_rel hY
  have h2 := scopeS_z hY
  exact ⟨⟨h1.1, h2.1⟩, fun a ha => ⟨h1.2 a ha, h2.2 a ha⟩⟩
def bls (l : List Bool) : List VV := l.map fun b => VV.bool b
theorem bls_len {l : List Bool} : (bls l).length = l.length := by simp [bls]
theorem bls_at {l : List Bool} {i : Nat} {b : Bool} (h : l[i]? = some b) : (bls l)[i]? = some (.bool b) := by simp [bls, h]
theorem bls_put {l : List Bool} {i : Nat} {b : Bool} (h : i < l.length) : List.take i (bls l) ++ [VV.bool b] ++ List.drop (i + 1) (bls l) = bls (l.set i b) := by
  simp only [bls, List.map_set]
  rw [List.set_eq_take_append_cons_drop, if_pos (by rw [List.length_map]; exact h)]
  simp
theorem bls_rep {n : Nat} : List.replicate n (VV.bool false) = bls (List.replicate n false) := by simp [bls]
def iL (l : List Nat) : List (List VV) := intsL (List.map (fun n : Nat => (n : Int)) l)
theorem iL_len {l : List Nat} : (iL l).length = l.length := by simp [iL, intsL]
theorem iL_at {l : List Nat} {i : Nat} (h : i < l.length) : (iL l)[i]? = some [.int .i64 (gt l i : Int)] := by
  have := gt_eq h
  simp [iL, intsL, this]
/-- What the row of what is reached holds, some demands having been looked at. -/
def Rch (l : List Nat) (F : List Edg) (R : List Bool) : Prop := ∀ e, e ∈ F → gt l e.h = gt l e.b + e.w → R[e.h]? = some true
theorem Rch.step {l : List Nat} {F : List Edg} {R : List Bool} {e : Edg} {b : Bool} (H : Rch l F R) (hb : R[e.h]? = some b) : Rch l (F ++ [e]) (R.set e.h (b || decide (gt l e.h = gt l e.b + e.w))) := by
  have hlt : e.h < R.length := (List.getElem?_eq_some_iff.1 hb).1
  intro e' he' hg
  rw [List.getElem?_set]
  rcases List.mem_append.1 he' with h | h
  · have := H e' h hg
    by_cases hh : e.h = e'.h
    · rw [if_pos hh, if_pos hlt]
      rw [← hh, hb] at this
      injection this with this
      subst this
      simp
    · rw [if_neg hh]; exact this
  · rw [List.mem_singleton] at h
    subst h
    rw [if_pos rfl, if_pos hlt]
    simp [hg]
set_option maxHeartbeats 8000000 in
theorem SoundStages_S (x : Pgm) (hx : PgmOk x) (t : St) : SRet Tryd.prog 3 [.agg (pgC x)] t (.bool true) t := by
  have w1 := fun s => UFew_S x hx s
  have w2 := fun s => Sstr_S x hx s
  have w3 := fun s => Scheck_S x hx s
  have hdl : x.decls.length ≤ 140737488355328 := hx.2.1
  have w4 := fun n s => RRel_S x n hdl s
  have hle : (x.decls.map dclC).length = x.decls.length := by simp
  have hlr : (x.rules.map rulC).length = x.rules.length := by simp
  by_cases he : (soundP x).2.1 = 0
  · obtain ⟨l, hs, hr, hb, hst⟩ := sound_ok he
    have hL : Least x.decls.length (edgP x) l := stg_least hst
    obtain ⟨hb1, hb2, hb3⟩ := pgm_bd (read_pgm hr)
    rw [hs] at w2 w3
    rw [show intsL (List.map (fun n : Nat => (n : Int)) l) = iL l from rfl] at w2
    have hll : (iL l).length = x.decls.length := by rw [iL_len]; exact hL.1
    have HL := Lib.hid hL
    have HB := Lib.hid hb
    have HB3 := Lib.hid hb3
    clear hL hb hb3 hst hs he hr
    simp only [pgC] at w1 w2 w3 w4 ⊢
    refine G_enter Tryd.func3 rfl Tryd.ntmps3 rfl fun Q hQ hQe => ?_
    (repeat' (first | (with_reducible first | refine L_seq ?_ | refine L_blk ?_ | refine L_skip ?_ | refine L_endblk ?_ | refine L_ret ?_ | refine L_exit ?_ | refine X_code ?_ | refine X_back ?_ | refine X_blk ?_ | refine X_past (by decide) ?_ | refine L_back ?_) | ((with_reducible refine Kof.use hK ?_); clear hK hE K E) | ((with_reducible refine Eof.use hE ?_); (try clear hK hE K E)) | ((with_reducible refine Kof.use hKh ?_); clear hKh Kh) | ((with_reducible refine Kof.use hKb (P_next ?_)); clear hKb Kb) | (with_reducible refine G_plan 13 [([0, 1, 2, 3, 4, 5, 6, 7], 8, [[]])] [9] hQe fun K E hK hE => ?_) | ((with_reducible refine W_cond (fun h => ?_) (fun h => ?_)) <;> (try (exfalso; first | assumption | omega))) | ((first | (with_reducible first | refine G_region fun K E hK hE => ?_ | refine call_ret can9 (w2 _) ?_ | refine call_ret can11 (w4 _ _) ?_ | refine call_ret can10 (Scheck_S _ (by assumption) _) ?_ | refine call_ret can9 (Sstr_S _ (by assumption) _) ?_ | refine call_ret can11 (RRel_S _ _ (by assumption) _) ?_ | refine call_ret can8 (Sawake_S _) ?_ | refine W_if ?_ | refine W_ifS ?_ | refine P_heads fun Kh hKh => ?_ | refine P_fin fun Kh hKh => ?_ | refine P_each fun Kb hKb => ?_ | refine W_and ?_) | ((with_reducible refine call_ex can7 (w1 _) (fun a h => ?_))) | ((with_reducible refine call_ex can7 (UFew_S _ (by assumption) _) (fun a h => ?_))) | ((with_reducible refine W_fresh (fun b hb => ?_)); (repeat (obtain ⟨_, hb⟩ := hb))) | ((with_reducible refine W_app (fun o2 ho => ?_)); (try simp (disch := assumption) only [disown_set, disown_own, ownok_o, ownok_m, List.length_map, List.length_cons, List.length_nil, Nat.zero_add, hle, hll] at ho); (repeat (obtain ⟨_, ho⟩ := ho))) | ((with_reducible refine W_gd (fun h => ?_) (fun h => ?_)) <;> (try (exfalso; first | assumption | omega)))) <;> (try simp (disch := first | assumption | omega) only [go_sem, seval, hle, hll, *]))))
    · all_goals (first | refine G_ret hQ (by simp (disch := first | assumption | omega) only [res3, go_sem, seval, *] <;> rfl) ?_ | refine G_norm hQ (by simp (disch := first | assumption | omega) only [res3, go_sem, seval, *] <;> rfl) ?_ | refine G_pan hQ ?_)
      all_goals (refine ⟨_, _, Wk.of_eq ?_, ?_, rfl, rfl⟩)
      all_goals first | rfl | ((try dsimp only); (repeat (first | exact Fg.refl _ | exact Fg.own (by assumption) | (refine Fg.set ?_ _ _) | (refine Fg.setA ?_ (by first | assumption | (simp (disch := assumption) only [own_rd, St.set, if_false, if_true, *]; done))) )); done)
    · rename_i bp hbp _ _ _ _ _
      obtain ⟨bo, hbo⟩ : ∃ z, z = b := ⟨_, rfl⟩
      subst hbo
      rw [bls_rep]
      have hSp : (t.set bp (.obj 26 [.lst (x.doms.map dmC) .no, .lst (x.decls.map dclC) .no, .lst (x.rules.map rulC) .no])) bp = (.obj 26 [.lst (x.doms.map dmC) .no, .lst (x.decls.map dclC) .no, .lst (x.rules.map rulC) .no]) := St.set_same _ _ _
      have hSo : (t.set bp (.obj 26 [.lst (x.doms.map dmC) .no, .lst (x.decls.map dclC) .no, .lst (x.rules.map rulC) .no])) bo = .free := by rw [St.set_other _ _ (by assumption)]; exact hb
      have hFS : Fg (t.set bp (.obj 26 [.lst (x.doms.map dmC) .no, .lst (x.decls.map dclC) .no, .lst (x.rules.map rulC) .no])) t := Fg.of_set _ hbp
      generalize t.set bp (.obj 26 [.lst (x.doms.map dmC) .no, .lst (x.decls.map dclC) .no, .lst (x.rules.map rulC) .no]) = S at *
      have HFS := Lib.hid hFS
      have hSpf : S bp ≠ .free := by rw [hSp]; simp
      clear hFS hbp hb
      generalize hn : x.decls.length = n at *
      refine G_loop (fun m env s' => ∃ (i : Nat) (R : List Bool), i ≤ x.rules.length ∧ m + i = x.rules.length ∧ R.length = n ∧ Hid (Rch l ((x.rules.take i).map (edgR x)).flatten R) ∧ s' = S.set bo (.obj 4 (bls R)) ∧
        env 1 = .ptr bp 0 ∧ env 3 = .lst (iL l) .no ∧ env 7 = .msl bo n ∧ env 8 = .int .i64 i) x.rules.length ?_ ?_
      · exact ⟨_, Fg.refl _, 0, List.replicate n false, by omega, by omega, by simp, Lib.hid (fun e he => by simp at he), rfl, by ((try simp (disch := first | assumption | omega) only [go_sem, seval, *]) <;> first | rfl | omega), by ((try simp (disch := first | assumption | omega) only [go_sem, seval, *]) <;> first | rfl | omega), by ((try simp (disch := first | assumption | omega) only [go_sem, seval, *]) <;> first | rfl | omega), by ((try simp (disch := first | assumption | omega) only [go_sem, seval, *]) <;> first | rfl | omega)⟩
      · rintro m env s' ⟨i, R, hi, hm, hRl, HR, rfl, e1, e3, e7, e8⟩
        by_cases hlt : i < x.rules.length
        · obtain ⟨r, hri⟩ := uget hlt
          have hmem := List.mem_of_getElem? hri
          have hsx := rulC_at hri
          obtain ⟨⟨hh, hz⟩, hab⟩ := sound_rel HB.out hmem
          have hbl := HB3.out r hmem
          have HME := Lib.hid hmem
          have HRI := Lib.hid hri
          have HAB := Lib.hid hab
          obtain ⟨_, hbl2, _⟩ := hbl
          rw [hn] at hh
          have hbb : (r.body.map atmC).length = r.body.length := by simp
          clear hri hmem hab
          generalize hd0 : ixR x r.head.rel = hd at *
          (repeat' (first | (with_reducible first | refine L_seq ?_ | refine L_blk ?_ | refine L_skip ?_ | refine L_endblk ?_ | refine L_ret ?_ | refine L_exit ?_ | refine X_code ?_ | refine X_back ?_ | refine X_blk ?_ | refine X_past (by decide) ?_ | refine L_back ?_) | ((with_reducible refine Kof.use hK ?_); clear hK hE K E) | ((with_reducible refine Eof.use hE ?_); (try clear hK hE K E)) | ((with_reducible refine Kof.use hKh ?_); clear hKh Kh) | ((with_reducible refine Kof.use hKb (P_next ?_)); clear hKb Kb) | (with_reducible refine G_plan 13 [([0, 1, 2, 3, 4, 5, 6, 7], 8, [[]])] [9] hQe fun K E hK hE => ?_) | ((with_reducible refine W_cond (fun h => ?_) (fun h => ?_)) <;> (try (exfalso; first | assumption | omega))) | ((first | (with_reducible first | refine G_region fun K E hK hE => ?_ | refine call_ret can11 (w4 _ _) ?_ | refine call_ret can10 (Scheck_S _ (by assumption) _) ?_ | refine call_ret can9 (Sstr_S _ (by assumption) _) ?_ | refine call_ret can11 (RRel_S _ _ (by assumption) _) ?_ | refine call_ret can8 (Sawake_S _) ?_ | refine W_if ?_ | refine W_ifS ?_ | refine P_heads fun Kh hKh => ?_ | refine P_fin fun Kh hKh => ?_ | refine P_each fun Kb hKb => ?_ | refine W_and ?_) | ((with_reducible refine call_ex can7 (UFew_S _ (by assumption) _) (fun a h => ?_))) | ((with_reducible refine W_fresh (fun b hb => ?_)); (repeat (obtain ⟨_, hb⟩ := hb))) | ((with_reducible refine W_app (fun o2 ho => ?_)); (try simp (disch := assumption) only [disown_set, disown_own, ownok_o, ownok_m, List.length_map, List.length_cons, List.length_nil, Nat.zero_add, hlr, hsx, rulC, hz] at ho); (repeat (obtain ⟨_, ho⟩ := ho))) | ((with_reducible refine W_gd (fun h => ?_) (fun h => ?_)) <;> (try (exfalso; first | assumption | omega)))) <;> (try simp (disch := first | assumption | omega) only [go_sem, seval, hlr, hsx, rulC, hz, *]))))
          have hlh := iL_at (l := l) (i := hd) (by rw [HL.out.1]; exact hh)
          refine G_loop (fun m' env s' => ∃ (k : Nat) (R : List Bool), k ≤ r.body.length ∧ m' + k = r.body.length ∧ R.length = n ∧ Hid (Rch l (((x.rules.take i).map (edgR x)).flatten ++ ((r.body.take k).map fun a => (⟨hd, ixR x a.rel, if a.not = true then 1 else 0⟩ : Edg))) R) ∧ s' = S.set bo (.obj 4 (bls R)) ∧
            env 1 = .ptr bp 0 ∧ env 3 = .lst (iL l) .no ∧ env 7 = .msl bo n ∧ env 8 = .int .i64 i ∧ env 9 = .int .i64 hd ∧ env 10 = .int .i64 k) r.body.length ?_ ?_
          · exact ⟨_, Fg.refl _, 0, R, by omega, by omega, hRl, Lib.hid (by simpa using HR.out), rfl, by ((try simp (disch := first | assumption | omega) only [go_sem, seval, *]) <;> first | rfl | omega), by ((try simp (disch := first | assumption | omega) only [go_sem, seval, *]) <;> first | rfl | omega), by ((try simp (disch := first | assumption | omega) only [go_sem, seval, *]) <;> first | rfl | omega), by ((try simp (disch := first | assumption | omega) only [go_sem, seval, *]) <;> first | rfl | omega), by ((try simp (disch := first | assumption | omega) only [go_sem, seval, *]) <;> first | rfl | omega), by ((try simp (disch := first | assumption | omega) only [go_sem, seval, *]) <;> first | rfl | omega)⟩
          · clear HR hRl e1 e3 e7 e8
            rintro m' env s' ⟨k, R, hk, hm', hRl, HR, rfl, e1, e3, e7, e8, e9, e10⟩
            have hbl3 : (bls R).length = n := by rw [bls_len]; exact hRl
            by_cases hlk : k < r.body.length
            · obtain ⟨c, hc⟩ := uget hlk
              have hcm := List.mem_of_getElem? hc
              have hsy := atmC_at hc
              obtain ⟨hci, hcz⟩ := HAB.out c hcm
              rw [hn] at hci
              have HC := Lib.hid hc
              have HIN := Lib.hid (edgP_in HME.out hcm)
              have hlc := iL_at (l := l) (i := ixR x c.rel) (by rw [HL.out.1]; exact hci)
              obtain ⟨rb, hrb⟩ := uget (l := R) (i := hd) (by omega)
              have hrx := bls_at hrb
              have HRB := Lib.hid hrb
              have hsol := HL.out.2.1 _ HIN.out
              obtain ⟨cn, cr, cts⟩ := c
              simp only [hd0] at hci hcz hlc hsol
              have hst := HR.out.step (e := ⟨hd, ixR x cr, if cn = true then 1 else 0⟩) hrb
              have HST := Lib.hid hst
              have hu32 := HL.out.2.2.2 hd hh
              have hv32 := HL.out.2.2.2 (ixR x cr) hci
              clear hc hcm hrb hst
              generalize hv : gt l (ixR x cr) = v at *
              generalize hu : gt l hd = u at *
              have HV := Lib.hid hv
              have HU := Lib.hid hu
              clear hv hu
              cases cn <;> simp only [Bool.false_eq_true, if_false, if_true, Nat.add_zero] at hsol HST
              · by_cases huv : u = v
                · cases rb
                  · (repeat' (first | (with_reducible first | refine L_seq ?_ | refine L_blk ?_ | refine L_skip ?_ | refine L_endblk ?_ | refine L_ret ?_ | refine L_exit ?_ | refine X_code ?_ | refine X_back ?_ | refine X_blk ?_ | refine X_past (by decide) ?_ | refine L_back ?_) | ((with_reducible refine Kof.use hK ?_); clear hK hE K E) | ((with_reducible refine Eof.use hE ?_); (try clear hK hE K E)) | ((with_reducible refine Kof.use hKh ?_); clear hKh Kh) | ((with_reducible refine Kof.use hKb (P_next ?_)); clear hKb Kb) | (with_reducible refine G_plan 13 [([0, 1, 2, 3, 4, 5, 6, 7], 8, [[]])] [9] hQe fun K E hK hE => ?_) | ((with_reducible refine W_cond (fun h => ?_) (fun h => ?_)) <;> (try (exfalso; first | assumption | omega))) | ((first | (with_reducible first | refine G_region fun K E hK hE => ?_ | refine call_ret can11 (w4 _ _) ?_ | refine call_ret can10 (Scheck_S _ (by assumption) _) ?_ | refine call_ret can9 (Sstr_S _ (by assumption) _) ?_ | refine call_ret can11 (RRel_S _ _ (by assumption) _) ?_ | refine call_ret can8 (Sawake_S _) ?_ | refine W_if ?_ | refine W_ifS ?_ | refine P_heads fun Kh hKh => ?_ | refine P_fin fun Kh hKh => ?_ | refine P_each fun Kb hKb => ?_ | refine W_and ?_) | ((with_reducible refine call_ex can7 (UFew_S _ (by assumption) _) (fun a h => ?_))) | ((with_reducible refine W_fresh (fun b hb => ?_)); (repeat (obtain ⟨_, hb⟩ := hb)); (try (obtain ⟨_, _⟩ := nef hb hSpf))) | ((with_reducible refine W_app (fun o2 ho => ?_)); (try simp (disch := assumption) only [disown_set, disown_own, ownok_o, ownok_m, List.length_map, List.length_cons, List.length_nil, Nat.zero_add, hlr, hsx, rulC, hbb, hsy, atmC, hlc, hlh, hcz, hrx, hbl3, hll] at ho); (repeat (obtain ⟨_, ho⟩ := ho))) | ((with_reducible refine W_gd (fun h => ?_) (fun h => ?_)) <;> (try (exfalso; first | assumption | omega)))) <;> (try simp (disch := first | assumption | omega) only [go_sem, seval, hlr, hsx, rulC, hbb, hsy, atmC, hlc, hlh, hcz, hrx, hbl3, hll, *]))))
                    refine ⟨S.set bo (.obj 4 (bls (R.set hd true))), by rw [bls_put (by omega)]; exact Fg.of_set _ (by rw [St.set_other _ _ (by assumption)]; exact hb), m' - 1, by omega, k + 1, R.set hd true, by omega, by omega, by rw [List.length_set]; exact hRl, Lib.hid ?_, rfl, by ((try simp (disch := first | assumption | omega) only [go_sem, seval, *]) <;> first | rfl | omega), by ((try simp (disch := first | assumption | omega) only [go_sem, seval, *]) <;> first | rfl | omega), by ((try simp (disch := first | assumption | omega) only [go_sem, seval, *]) <;> first | rfl | omega), by ((try simp (disch := first | assumption | omega) only [go_sem, seval, *]) <;> first | rfl | omega), by ((try simp (disch := first | assumption | omega) only [go_sem, seval, *]) <;> first | rfl | omega), by ((try simp (disch := first | assumption | omega) only [go_sem, seval, *]) <;> first | rfl | omega)⟩
                    rw [mtake HC.out, ← List.append_assoc]
                    have h9 := HST.out
                    rw [show (false || decide (u = v)) = true by simp [huv]] at h9
                    exact h9
                  · (repeat' (first | (with_reducible first | refine L_seq ?_ | refine L_blk ?_ | refine L_skip ?_ | refine L_endblk ?_ | refine L_ret ?_ | refine L_exit ?_ | refine X_code ?_ | refine X_back ?_ | refine X_blk ?_ | refine X_past (by decide) ?_ | refine L_back ?_) | ((with_reducible refine Kof.use hK ?_); clear hK hE K E) | ((with_reducible refine Eof.use hE ?_); (try clear hK hE K E)) | ((with_reducible refine Kof.use hKh ?_); clear hKh Kh) | ((with_reducible refine Kof.use hKb (P_next ?_)); clear hKb Kb) | (with_reducible refine G_plan 13 [([0, 1, 2, 3, 4, 5, 6, 7], 8, [[]])] [9] hQe fun K E hK hE => ?_) | ((with_reducible refine W_cond (fun h => ?_) (fun h => ?_)) <;> (try (exfalso; first | assumption | omega))) | ((first | (with_reducible first | refine G_region fun K E hK hE => ?_ | refine call_ret can11 (w4 _ _) ?_ | refine call_ret can10 (Scheck_S _ (by assumption) _) ?_ | refine call_ret can9 (Sstr_S _ (by assumption) _) ?_ | refine call_ret can11 (RRel_S _ _ (by assumption) _) ?_ | refine call_ret can8 (Sawake_S _) ?_ | refine W_if ?_ | refine W_ifS ?_ | refine P_heads fun Kh hKh => ?_ | refine P_fin fun Kh hKh => ?_ | refine P_each fun Kb hKb => ?_ | refine W_and ?_) | ((with_reducible refine call_ex can7 (UFew_S _ (by assumption) _) (fun a h => ?_))) | ((with_reducible refine W_fresh (fun b hb => ?_)); (repeat (obtain ⟨_, hb⟩ := hb)); (try (obtain ⟨_, _⟩ := nef hb hSpf))) | ((with_reducible refine W_app (fun o2 ho => ?_)); (try simp (disch := assumption) only [disown_set, disown_own, ownok_o, ownok_m, List.length_map, List.length_cons, List.length_nil, Nat.zero_add, hlr, hsx, rulC, hbb, hsy, atmC, hlc, hlh, hcz, hrx, hbl3, hll] at ho); (repeat (obtain ⟨_, ho⟩ := ho))) | ((with_reducible refine W_gd (fun h => ?_) (fun h => ?_)) <;> (try (exfalso; first | assumption | omega)))) <;> (try simp (disch := first | assumption | omega) only [go_sem, seval, hlr, hsx, rulC, hbb, hsy, atmC, hlc, hlh, hcz, hrx, hbl3, hll, *]))))
                    refine ⟨S.set bo (.obj 4 (bls (R.set hd true))), by rw [bls_put (by omega)]; exact Fg.of_set _ (by rw [St.set_other _ _ (by assumption)]; exact hb), m' - 1, by omega, k + 1, R.set hd true, by omega, by omega, by rw [List.length_set]; exact hRl, Lib.hid ?_, rfl, by ((try simp (disch := first | assumption | omega) only [go_sem, seval, *]) <;> first | rfl | omega), by ((try simp (disch := first | assumption | omega) only [go_sem, seval, *]) <;> first | rfl | omega), by ((try simp (disch := first | assumption | omega) only [go_sem, seval, *]) <;> first | rfl | omega), by ((try simp (disch := first | assumption | omega) only [go_sem, seval, *]) <;> first | rfl | omega), by ((try simp (disch := first | assumption | omega) only [go_sem, seval, *]) <;> first | rfl | omega), by ((try simp (disch := first | assumption | omega) only [go_sem, seval, *]) <;> first | rfl | omega)⟩
                    rw [mtake HC.out, ← List.append_assoc]
                    have h9 := HST.out
                    rw [show (true || decide (u = v)) = true by simp [huv]] at h9
                    exact h9
                · have huI : ((u : Int) = ((v : Int))) = False := eq_false (by omega)
                  cases rb
                  · (repeat' (first | (with_reducible first | refine L_seq ?_ | refine L_blk ?_ | refine L_skip ?_ | refine L_endblk ?_ | refine L_ret ?_ | refine L_exit ?_ | refine X_code ?_ | refine X_back ?_ | refine X_blk ?_ | refine X_past (by decide) ?_ | refine L_back ?_) | ((with_reducible refine Kof.use hK ?_); clear hK hE K E) | ((with_reducible refine Eof.use hE ?_); (try clear hK hE K E)) | ((with_reducible refine Kof.use hKh ?_); clear hKh Kh) | ((with_reducible refine Kof.use hKb (P_next ?_)); clear hKb Kb) | (with_reducible refine G_plan 13 [([0, 1, 2, 3, 4, 5, 6, 7], 8, [[]])] [9] hQe fun K E hK hE => ?_) | ((with_reducible refine W_cond (fun h => ?_) (fun h => ?_)) <;> (try (exfalso; first | assumption | omega))) | ((first | (with_reducible first | refine G_region fun K E hK hE => ?_ | refine call_ret can11 (w4 _ _) ?_ | refine call_ret can10 (Scheck_S _ (by assumption) _) ?_ | refine call_ret can9 (Sstr_S _ (by assumption) _) ?_ | refine call_ret can11 (RRel_S _ _ (by assumption) _) ?_ | refine call_ret can8 (Sawake_S _) ?_ | refine W_if ?_ | refine W_ifS ?_ | refine P_heads fun Kh hKh => ?_ | refine P_fin fun Kh hKh => ?_ | refine P_each fun Kb hKb => ?_ | refine W_and ?_) | ((with_reducible refine call_ex can7 (UFew_S _ (by assumption) _) (fun a h => ?_))) | ((with_reducible refine W_fresh (fun b hb => ?_)); (repeat (obtain ⟨_, hb⟩ := hb)); (try (obtain ⟨_, _⟩ := nef hb hSpf))) | ((with_reducible refine W_app (fun o2 ho => ?_)); (try simp (disch := assumption) only [disown_set, disown_own, ownok_o, ownok_m, List.length_map, List.length_cons, List.length_nil, Nat.zero_add, hlr, hsx, rulC, hbb, hsy, atmC, hlc, hlh, hcz, hrx, hbl3, hll, huI] at ho); (repeat (obtain ⟨_, ho⟩ := ho))) | ((with_reducible refine W_gd (fun h => ?_) (fun h => ?_)) <;> (try (exfalso; first | assumption | omega)))) <;> (try simp (disch := first | assumption | omega) only [go_sem, seval, hlr, hsx, rulC, hbb, hsy, atmC, hlc, hlh, hcz, hrx, hbl3, hll, huI, *]))))
                    refine ⟨S.set bo (.obj 4 (bls (R.set hd false))), by rw [bls_put (by omega)]; exact Fg.of_set _ (by rw [St.set_other _ _ (by assumption)]; exact hb), m' - 1, by omega, k + 1, R.set hd false, by omega, by omega, by rw [List.length_set]; exact hRl, Lib.hid ?_, rfl, by ((try simp (disch := first | assumption | omega) only [go_sem, seval, *]) <;> first | rfl | omega), by ((try simp (disch := first | assumption | omega) only [go_sem, seval, *]) <;> first | rfl | omega), by ((try simp (disch := first | assumption | omega) only [go_sem, seval, *]) <;> first | rfl | omega), by ((try simp (disch := first | assumption | omega) only [go_sem, seval, *]) <;> first | rfl | omega), by ((try simp (disch := first | assumption | omega) only [go_sem, seval, *]) <;> first | rfl | omega), by ((try simp (disch := first | assumption | omega) only [go_sem, seval, *]) <;> first | rfl | omega)⟩
                    rw [mtake HC.out, ← List.append_assoc]
                    have h9 := HST.out
                    rw [show (false || decide (u = v)) = false by simp [huv]] at h9
                    exact h9
                  · (repeat' (first | (with_reducible first | refine L_seq ?_ | refine L_blk ?_ | refine L_skip ?_ | refine L_endblk ?_ | refine L_ret ?_ | refine L_exit ?_ | refine X_code ?_ | refine X_back ?_ | refine X_blk ?_ | refine X_past (by decide) ?_ | refine L_back ?_) | ((with_reducible refine Kof.use hK ?_); clear hK hE K E) | ((with_reducible refine Eof.use hE ?_); (try clear hK hE K E)) | ((with_reducible refine Kof.use hKh ?_); clear hKh Kh) | ((with_reducible refine Kof.use hKb (P_next ?_)); clear hKb Kb) | (with_reducible refine G_plan 13 [([0, 1, 2, 3, 4, 5, 6, 7], 8, [[]])] [9] hQe fun K E hK hE => ?_) | ((with_reducible refine W_cond (fun h => ?_) (fun h => ?_)) <;> (try (exfalso; first | assumption | omega))) | ((first | (with_reducible first | refine G_region fun K E hK hE => ?_ | refine call_ret can11 (w4 _ _) ?_ | refine call_ret can10 (Scheck_S _ (by assumption) _) ?_ | refine call_ret can9 (Sstr_S _ (by assumption) _) ?_ | refine call_ret can11 (RRel_S _ _ (by assumption) _) ?_ | refine call_ret can8 (Sawake_S _) ?_ | refine W_if ?_ | refine W_ifS ?_ | refine P_heads fun Kh hKh => ?_ | refine P_fin fun Kh hKh => ?_ | refine P_each fun Kb hKb => ?_ | refine W_and ?_) | ((with_reducible refine call_ex can7 (UFew_S _ (by assumption) _) (fun a h => ?_))) | ((with_reducible refine W_fresh (fun b hb => ?_)); (repeat (obtain ⟨_, hb⟩ := hb)); (try (obtain ⟨_, _⟩ := nef hb hSpf))) | ((with_reducible refine W_app (fun o2 ho => ?_)); (try simp (disch := assumption) only [disown_set, disown_own, ownok_o, ownok_m, List.length_map, List.length_cons, List.length_nil, Nat.zero_add, hlr, hsx, rulC, hbb, hsy, atmC, hlc, hlh, hcz, hrx, hbl3, hll, huI] at ho); (repeat (obtain ⟨_, ho⟩ := ho))) | ((with_reducible refine W_gd (fun h => ?_) (fun h => ?_)) <;> (try (exfalso; first | assumption | omega)))) <;> (try simp (disch := first | assumption | omega) only [go_sem, seval, hlr, hsx, rulC, hbb, hsy, atmC, hlc, hlh, hcz, hrx, hbl3, hll, huI, *]))))
                    refine ⟨S.set bo (.obj 4 (bls (R.set hd true))), by rw [bls_put (by omega)]; exact Fg.of_set _ (by rw [St.set_other _ _ (by assumption)]; exact hb), m' - 1, by omega, k + 1, R.set hd true, by omega, by omega, by rw [List.length_set]; exact hRl, Lib.hid ?_, rfl, by ((try simp (disch := first | assumption | omega) only [go_sem, seval, *]) <;> first | rfl | omega), by ((try simp (disch := first | assumption | omega) only [go_sem, seval, *]) <;> first | rfl | omega), by ((try simp (disch := first | assumption | omega) only [go_sem, seval, *]) <;> first | rfl | omega), by ((try simp (disch := first | assumption | omega) only [go_sem, seval, *]) <;> first | rfl | omega), by ((try simp (disch := first | assumption | omega) only [go_sem, seval, *]) <;> first | rfl | omega), by ((try simp (disch := first | assumption | omega) only [go_sem, seval, *]) <;> first | rfl | omega)⟩
                    rw [mtake HC.out, ← List.append_assoc]
                    have h9 := HST.out
                    rw [show (true || decide (u = v)) = true by simp [huv]] at h9
                    exact h9
              · by_cases huv : u = v + 1
                · cases rb
                  · (repeat' (first | (with_reducible first | refine L_seq ?_ | refine L_blk ?_ | refine L_skip ?_ | refine L_endblk ?_ | refine L_ret ?_ | refine L_exit ?_ | refine X_code ?_ | refine X_back ?_ | refine X_blk ?_ | refine X_past (by decide) ?_ | refine L_back ?_) | ((with_reducible refine Kof.use hK ?_); clear hK hE K E) | ((with_reducible refine Eof.use hE ?_); (try clear hK hE K E)) | ((with_reducible refine Kof.use hKh ?_); clear hKh Kh) | ((with_reducible refine Kof.use hKb (P_next ?_)); clear hKb Kb) | (with_reducible refine G_plan 13 [([0, 1, 2, 3, 4, 5, 6, 7], 8, [[]])] [9] hQe fun K E hK hE => ?_) | ((with_reducible refine W_cond (fun h => ?_) (fun h => ?_)) <;> (try (exfalso; first | assumption | omega))) | ((first | (with_reducible first | refine G_region fun K E hK hE => ?_ | refine call_ret can11 (w4 _ _) ?_ | refine call_ret can10 (Scheck_S _ (by assumption) _) ?_ | refine call_ret can9 (Sstr_S _ (by assumption) _) ?_ | refine call_ret can11 (RRel_S _ _ (by assumption) _) ?_ | refine call_ret can8 (Sawake_S _) ?_ | refine W_if ?_ | refine W_ifS ?_ | refine P_heads fun Kh hKh => ?_ | refine P_fin fun Kh hKh => ?_ | refine P_each fun Kb hKb => ?_ | refine W_and ?_) | ((with_reducible refine call_ex can7 (UFew_S _ (by assumption) _) (fun a h => ?_))) | ((with_reducible refine W_fresh (fun b hb => ?_)); (repeat (obtain ⟨_, hb⟩ := hb)); (try (obtain ⟨_, _⟩ := nef hb hSpf))) | ((with_reducible refine W_app (fun o2 ho => ?_)); (try simp (disch := assumption) only [disown_set, disown_own, ownok_o, ownok_m, List.length_map, List.length_cons, List.length_nil, Nat.zero_add, hlr, hsx, rulC, hbb, hsy, atmC, hlc, hlh, hcz, hrx, hbl3, hll] at ho); (repeat (obtain ⟨_, ho⟩ := ho))) | ((with_reducible refine W_gd (fun h => ?_) (fun h => ?_)) <;> (try (exfalso; first | assumption | omega)))) <;> (try simp (disch := first | assumption | omega) only [go_sem, seval, hlr, hsx, rulC, hbb, hsy, atmC, hlc, hlh, hcz, hrx, hbl3, hll, *]))))
                    refine ⟨S.set bo (.obj 4 (bls (R.set hd true))), by rw [bls_put (by omega)]; exact Fg.of_set _ (by rw [St.set_other _ _ (by assumption)]; exact hb), m' - 1, by omega, k + 1, R.set hd true, by omega, by omega, by rw [List.length_set]; exact hRl, Lib.hid ?_, rfl, by ((try simp (disch := first | assumption | omega) only [go_sem, seval, *]) <;> first | rfl | omega), by ((try simp (disch := first | assumption | omega) only [go_sem, seval, *]) <;> first | rfl | omega), by ((try simp (disch := first | assumption | omega) only [go_sem, seval, *]) <;> first | rfl | omega), by ((try simp (disch := first | assumption | omega) only [go_sem, seval, *]) <;> first | rfl | omega), by ((try simp (disch := first | assumption | omega) only [go_sem, seval, *]) <;> first | rfl | omega), by ((try simp (disch := first | assumption | omega) only [go_sem, seval, *]) <;> first | rfl | omega)⟩
                    rw [mtake HC.out, ← List.append_assoc]
                    have h9 := HST.out
                    rw [show (false || decide (u = v + 1)) = true by simp [huv]] at h9
                    exact h9
                  · (repeat' (first | (with_reducible first | refine L_seq ?_ | refine L_blk ?_ | refine L_skip ?_ | refine L_endblk ?_ | refine L_ret ?_ | refine L_exit ?_ | refine X_code ?_ | refine X_back ?_ | refine X_blk ?_ | refine X_past (by decide) ?_ | refine L_back ?_) | ((with_reducible refine Kof.use hK ?_); clear hK hE K E) | ((with_reducible refine Eof.use hE ?_); (try clear hK hE K E)) | ((with_reducible refine Kof.use hKh ?_); clear hKh Kh) | ((with_reducible refine Kof.use hKb (P_next ?_)); clear hKb Kb) | (with_reducible refine G_plan 13 [([0, 1, 2, 3, 4, 5, 6, 7], 8, [[]])] [9] hQe fun K E hK hE => ?_) | ((with_reducible refine W_cond (fun h => ?_) (fun h => ?_)) <;> (try (exfalso; first | assumption | omega))) | ((first | (with_reducible first | refine G_region fun K E hK hE => ?_ | refine call_ret can11 (w4 _ _) ?_ | refine call_ret can10 (Scheck_S _ (by assumption) _) ?_ | refine call_ret can9 (Sstr_S _ (by assumption) _) ?_ | refine call_ret can11 (RRel_S _ _ (by assumption) _) ?_ | refine call_ret can8 (Sawake_S _) ?_ | refine W_if ?_ | refine W_ifS ?_ | refine P_heads fun Kh hKh => ?_ | refine P_fin fun Kh hKh => ?_ | refine P_each fun Kb hKb => ?_ | refine W_and ?_) | ((with_reducible refine call_ex can7 (UFew_S _ (by assumption) _) (fun a h => ?_))) | ((with_reducible refine W_fresh (fun b hb => ?_)); (repeat (obtain ⟨_, hb⟩ := hb)); (try (obtain ⟨_, _⟩ := nef hb hSpf))) | ((with_reducible refine W_app (fun o2 ho => ?_)); (try simp (disch := assumption) only [disown_set, disown_own, ownok_o, ownok_m, List.length_map, List.length_cons, List.length_nil, Nat.zero_add, hlr, hsx, rulC, hbb, hsy, atmC, hlc, hlh, hcz, hrx, hbl3, hll] at ho); (repeat (obtain ⟨_, ho⟩ := ho))) | ((with_reducible refine W_gd (fun h => ?_) (fun h => ?_)) <;> (try (exfalso; first | assumption | omega)))) <;> (try simp (disch := first | assumption | omega) only [go_sem, seval, hlr, hsx, rulC, hbb, hsy, atmC, hlc, hlh, hcz, hrx, hbl3, hll, *]))))
                    refine ⟨S.set bo (.obj 4 (bls (R.set hd true))), by rw [bls_put (by omega)]; exact Fg.of_set _ (by rw [St.set_other _ _ (by assumption)]; exact hb), m' - 1, by omega, k + 1, R.set hd true, by omega, by omega, by rw [List.length_set]; exact hRl, Lib.hid ?_, rfl, by ((try simp (disch := first | assumption | omega) only [go_sem, seval, *]) <;> first | rfl | omega), by ((try simp (disch := first | assumption | omega) only [go_sem, seval, *]) <;> first | rfl | omega), by ((try simp (disch := first | assumption | omega) only [go_sem, seval, *]) <;> first | rfl | omega), by ((try simp (disch := first | assumption | omega) only [go_sem, seval, *]) <;> first | rfl | omega), by ((try simp (disch := first | assumption | omega) only [go_sem, seval, *]) <;> first | rfl | omega), by ((try simp (disch := first | assumption | omega) only [go_sem, seval, *]) <;> first | rfl | omega)⟩
                    rw [mtake HC.out, ← List.append_assoc]
                    have h9 := HST.out
                    rw [show (true || decide (u = v + 1)) = true by simp [huv]] at h9
                    exact h9
                · have huI : ((u : Int) = (((v + 1 : Nat) : Int))) = False := eq_false (by omega)
                  cases rb
                  · (repeat' (first | (with_reducible first | refine L_seq ?_ | refine L_blk ?_ | refine L_skip ?_ | refine L_endblk ?_ | refine L_ret ?_ | refine L_exit ?_ | refine X_code ?_ | refine X_back ?_ | refine X_blk ?_ | refine X_past (by decide) ?_ | refine L_back ?_) | ((with_reducible refine Kof.use hK ?_); clear hK hE K E) | ((with_reducible refine Eof.use hE ?_); (try clear hK hE K E)) | ((with_reducible refine Kof.use hKh ?_); clear hKh Kh) | ((with_reducible refine Kof.use hKb (P_next ?_)); clear hKb Kb) | (with_reducible refine G_plan 13 [([0, 1, 2, 3, 4, 5, 6, 7], 8, [[]])] [9] hQe fun K E hK hE => ?_) | ((with_reducible refine W_cond (fun h => ?_) (fun h => ?_)) <;> (try (exfalso; first | assumption | omega))) | ((first | (with_reducible first | refine G_region fun K E hK hE => ?_ | refine call_ret can11 (w4 _ _) ?_ | refine call_ret can10 (Scheck_S _ (by assumption) _) ?_ | refine call_ret can9 (Sstr_S _ (by assumption) _) ?_ | refine call_ret can11 (RRel_S _ _ (by assumption) _) ?_ | refine call_ret can8 (Sawake_S _) ?_ | refine W_if ?_ | refine W_ifS ?_ | refine P_heads fun Kh hKh => ?_ | refine P_fin fun Kh hKh => ?_ | refine P_each fun Kb hKb => ?_ | refine W_and ?_) | ((with_reducible refine call_ex can7 (UFew_S _ (by assumption) _) (fun a h => ?_))) | ((with_reducible refine W_fresh (fun b hb => ?_)); (repeat (obtain ⟨_, hb⟩ := hb)); (try (obtain ⟨_, _⟩ := nef hb hSpf))) | ((with_reducible refine W_app (fun o2 ho => ?_)); (try simp (disch := assumption) only [disown_set, disown_own, ownok_o, ownok_m, List.length_map, List.length_cons, List.length_nil, Nat.zero_add, hlr, hsx, rulC, hbb, hsy, atmC, hlc, hlh, hcz, hrx, hbl3, hll, huI] at ho); (repeat (obtain ⟨_, ho⟩ := ho))) | ((with_reducible refine W_gd (fun h => ?_) (fun h => ?_)) <;> (try (exfalso; first | assumption | omega)))) <;> (try simp (disch := first | assumption | omega) only [go_sem, seval, hlr, hsx, rulC, hbb, hsy, atmC, hlc, hlh, hcz, hrx, hbl3, hll, huI, *]))))
                    refine ⟨S.set bo (.obj 4 (bls (R.set hd false))), by rw [bls_put (by omega)]; exact Fg.of_set _ (by rw [St.set_other _ _ (by assumption)]; exact hb), m' - 1, by omega, k + 1, R.set hd false, by omega, by omega, by rw [List.length_set]; exact hRl, Lib.hid ?_, rfl, by ((try simp (disch := first | assumption | omega) only [go_sem, seval, *]) <;> first | rfl | omega), by ((try simp (disch := first | assumption | omega) only [go_sem, seval, *]) <;> first | rfl | omega), by ((try simp (disch := first | assumption | omega) only [go_sem, seval, *]) <;> first | rfl | omega), by ((try simp (disch := first | assumption | omega) only [go_sem, seval, *]) <;> first | rfl | omega), by ((try simp (disch := first | assumption | omega) only [go_sem, seval, *]) <;> first | rfl | omega), by ((try simp (disch := first | assumption | omega) only [go_sem, seval, *]) <;> first | rfl | omega)⟩
                    rw [mtake HC.out, ← List.append_assoc]
                    have h9 := HST.out
                    rw [show (false || decide (u = v + 1)) = false by simp [huv]] at h9
                    exact h9
                  · (repeat' (first | (with_reducible first | refine L_seq ?_ | refine L_blk ?_ | refine L_skip ?_ | refine L_endblk ?_ | refine L_ret ?_ | refine L_exit ?_ | refine X_code ?_ | refine X_back ?_ | refine X_blk ?_ | refine X_past (by decide) ?_ | refine L_back ?_) | ((with_reducible refine Kof.use hK ?_); clear hK hE K E) | ((with_reducible refine Eof.use hE ?_); (try clear hK hE K E)) | ((with_reducible refine Kof.use hKh ?_); clear hKh Kh) | ((with_reducible refine Kof.use hKb (P_next ?_)); clear hKb Kb) | (with_reducible refine G_plan 13 [([0, 1, 2, 3, 4, 5, 6, 7], 8, [[]])] [9] hQe fun K E hK hE => ?_) | ((with_reducible refine W_cond (fun h => ?_) (fun h => ?_)) <;> (try (exfalso; first | assumption | omega))) | ((first | (with_reducible first | refine G_region fun K E hK hE => ?_ | refine call_ret can11 (w4 _ _) ?_ | refine call_ret can10 (Scheck_S _ (by assumption) _) ?_ | refine call_ret can9 (Sstr_S _ (by assumption) _) ?_ | refine call_ret can11 (RRel_S _ _ (by assumption) _) ?_ | refine call_ret can8 (Sawake_S _) ?_ | refine W_if ?_ | refine W_ifS ?_ | refine P_heads fun Kh hKh => ?_ | refine P_fin fun Kh hKh => ?_ | refine P_each fun Kb hKb => ?_ | refine W_and ?_) | ((with_reducible refine call_ex can7 (UFew_S _ (by assumption) _) (fun a h => ?_))) | ((with_reducible refine W_fresh (fun b hb => ?_)); (repeat (obtain ⟨_, hb⟩ := hb)); (try (obtain ⟨_, _⟩ := nef hb hSpf))) | ((with_reducible refine W_app (fun o2 ho => ?_)); (try simp (disch := assumption) only [disown_set, disown_own, ownok_o, ownok_m, List.length_map, List.length_cons, List.length_nil, Nat.zero_add, hlr, hsx, rulC, hbb, hsy, atmC, hlc, hlh, hcz, hrx, hbl3, hll, huI] at ho); (repeat (obtain ⟨_, ho⟩ := ho))) | ((with_reducible refine W_gd (fun h => ?_) (fun h => ?_)) <;> (try (exfalso; first | assumption | omega)))) <;> (try simp (disch := first | assumption | omega) only [go_sem, seval, hlr, hsx, rulC, hbb, hsy, atmC, hlc, hlh, hcz, hrx, hbl3, hll, huI, *]))))
                    refine ⟨S.set bo (.obj 4 (bls (R.set hd true))), by rw [bls_put (by omega)]; exact Fg.of_set _ (by rw [St.set_other _ _ (by assumption)]; exact hb), m' - 1, by omega, k + 1, R.set hd true, by omega, by omega, by rw [List.length_set]; exact hRl, Lib.hid ?_, rfl, by ((try simp (disch := first | assumption | omega) only [go_sem, seval, *]) <;> first | rfl | omega), by ((try simp (disch := first | assumption | omega) only [go_sem, seval, *]) <;> first | rfl | omega), by ((try simp (disch := first | assumption | omega) only [go_sem, seval, *]) <;> first | rfl | omega), by ((try simp (disch := first | assumption | omega) only [go_sem, seval, *]) <;> first | rfl | omega), by ((try simp (disch := first | assumption | omega) only [go_sem, seval, *]) <;> first | rfl | omega), by ((try simp (disch := first | assumption | omega) only [go_sem, seval, *]) <;> first | rfl | omega)⟩
                    rw [mtake HC.out, ← List.append_assoc]
                    have h9 := HST.out
                    rw [show (true || decide (u = v + 1)) = true by simp [huv]] at h9
                    exact h9
            · (repeat' (first | (with_reducible first | refine L_seq ?_ | refine L_blk ?_ | refine L_skip ?_ | refine L_endblk ?_ | refine L_ret ?_ | refine L_exit ?_ | refine X_code ?_ | refine X_back ?_ | refine X_blk ?_ | refine X_past (by decide) ?_ | refine L_back ?_) | ((with_reducible refine Kof.use hK ?_); clear hK hE K E) | ((with_reducible refine Eof.use hE ?_); (try clear hK hE K E)) | ((with_reducible refine Kof.use hKh ?_); clear hKh Kh) | ((with_reducible refine Kof.use hKb (P_next ?_)); clear hKb Kb) | (with_reducible refine G_plan 13 [([0, 1, 2, 3, 4, 5, 6, 7], 8, [[]])] [9] hQe fun K E hK hE => ?_) | ((with_reducible refine W_cond (fun h => ?_) (fun h => ?_)) <;> (try (exfalso; first | assumption | omega))) | ((first | (with_reducible first | refine G_region fun K E hK hE => ?_ | refine call_ret can10 (Scheck_S _ (by assumption) _) ?_ | refine call_ret can9 (Sstr_S _ (by assumption) _) ?_ | refine call_ret can11 (RRel_S _ _ (by assumption) _) ?_ | refine call_ret can8 (Sawake_S _) ?_ | refine W_if ?_ | refine W_ifS ?_ | refine P_heads fun Kh hKh => ?_ | refine P_fin fun Kh hKh => ?_ | refine P_each fun Kb hKb => ?_ | refine W_and ?_) | ((with_reducible refine call_ex can7 (UFew_S _ (by assumption) _) (fun a h => ?_))) | ((with_reducible refine W_fresh (fun b hb => ?_)); (repeat (obtain ⟨_, hb⟩ := hb))) | ((with_reducible refine W_app (fun o2 ho => ?_)); (try simp (disch := assumption) only [disown_set, disown_own, ownok_o, ownok_m, List.length_map, List.length_cons, List.length_nil, Nat.zero_add, hlr, hsx, rulC, hbb] at ho); (repeat (obtain ⟨_, ho⟩ := ho))) | ((with_reducible refine W_gd (fun h => ?_) (fun h => ?_)) <;> (try (exfalso; first | assumption | omega)))) <;> (try simp (disch := first | assumption | omega) only [go_sem, seval, hlr, hsx, rulC, hbb, *]))))
              refine ⟨_, Fg.refl _, m - 1, by omega, i + 1, R, by omega, by omega, hRl, Lib.hid ?_, rfl, by ((try simp (disch := first | assumption | omega) only [go_sem, seval, *]) <;> first | rfl | omega), by ((try simp (disch := first | assumption | omega) only [go_sem, seval, *]) <;> first | rfl | omega), by ((try simp (disch := first | assumption | omega) only [go_sem, seval, *]) <;> first | rfl | omega), by ((try simp (disch := first | assumption | omega) only [go_sem, seval, *]) <;> first | rfl | omega)⟩
              have h9 := HR.out
              rw [show k = r.body.length by omega, List.take_length] at h9
              rw [edgP_at HRI.out]
              unfold edgR at h9 ⊢
              rw [hd0]
              exact h9
        · have hRc := HR.out
          rw [show i = x.rules.length by omega, List.take_length] at hRc
          have HRC : Hid (Rch l (edgP x) R) := Lib.hid hRc
          have hbl3 : (bls R).length = n := by rw [bls_len]; exact hRl
          clear hRc HR
          (repeat' (first | (with_reducible first | refine L_seq ?_ | refine L_blk ?_ | refine L_skip ?_ | refine L_endblk ?_ | refine L_ret ?_ | refine L_exit ?_ | refine X_code ?_ | refine X_back ?_ | refine X_blk ?_ | refine X_past (by decide) ?_ | refine L_back ?_) | ((with_reducible refine Kof.use hK ?_); clear hK hE K E) | ((with_reducible refine Eof.use hE ?_); (try clear hK hE K E)) | ((with_reducible refine Kof.use hKh ?_); clear hKh Kh) | ((with_reducible refine Kof.use hKb (P_next ?_)); clear hKb Kb) | (with_reducible refine G_plan 13 [([0, 1, 2, 3, 4, 5, 6, 7], 8, [[]])] [9] hQe fun K E hK hE => ?_) | ((with_reducible refine W_cond (fun h => ?_) (fun h => ?_)) <;> (try (exfalso; first | assumption | omega))) | ((first | (with_reducible first | refine G_region fun K E hK hE => ?_ | refine call_ret can10 (Scheck_S _ (by assumption) _) ?_ | refine call_ret can9 (Sstr_S _ (by assumption) _) ?_ | refine call_ret can11 (RRel_S _ _ (by assumption) _) ?_ | refine call_ret can8 (Sawake_S _) ?_ | refine W_if ?_ | refine W_ifS ?_ | refine P_heads fun Kh hKh => ?_ | refine P_fin fun Kh hKh => ?_ | refine P_each fun Kb hKb => ?_ | refine W_and ?_) | ((with_reducible refine call_ex can7 (UFew_S _ (by assumption) _) (fun a h => ?_))) | ((with_reducible refine W_fresh (fun b hb => ?_)); (repeat (obtain ⟨_, hb⟩ := hb))) | ((with_reducible refine W_app (fun o2 ho => ?_)); (try simp (disch := assumption) only [disown_set, disown_own, ownok_o, ownok_m, List.length_map, List.length_cons, List.length_nil, Nat.zero_add, hlr] at ho); (repeat (obtain ⟨_, ho⟩ := ho))) | ((with_reducible refine W_gd (fun h => ?_) (fun h => ?_)) <;> (try (exfalso; first | assumption | omega)))) <;> (try simp (disch := first | assumption | omega) only [go_sem, seval, hlr, *]))))
          refine G_loop (fun m' env s' => ∃ j : Nat, j ≤ n ∧ m' + j = n ∧ s' = S.set bo (.obj 4 (bls R)) ∧ env 3 = .lst (iL l) .no ∧ env 7 = .msl bo n ∧ env 13 = .int .i64 j) n ?_ ?_
          · exact ⟨_, Fg.refl _, 0, by omega, by omega, rfl, by ((try simp (disch := first | assumption | omega) only [go_sem, seval, *]) <;> first | rfl | omega), by ((try simp (disch := first | assumption | omega) only [go_sem, seval, *]) <;> first | rfl | omega), by ((try simp (disch := first | assumption | omega) only [go_sem, seval, *]) <;> first | rfl | omega)⟩
          · clear e1 e3 e7 e8
            rintro m' env s' ⟨j, hj, hm', rfl, e3, e7, e13⟩
            by_cases hlt2 : j < n
            · have hlj := iL_at (l := l) (i := j) (by rw [HL.out.1]; exact hlt2)
              have hv32 := HL.out.2.2.2 j hlt2
              obtain ⟨rb, hrb⟩ := uget (l := R) (i := j) (by omega)
              have hrx := bls_at hrb
              have hrr : gt l j = 0 ∨ rb = true := by
                by_cases h0 : gt l j = 0
                · exact .inl h0
                · obtain ⟨e, he, hej, heq⟩ := least_reached HL.out hlt2 (by omega)
                  have := HRC.out e he (by rw [hej]; exact heq)
                  rw [hej, hrb] at this
                  injection this with this
                  exact .inr this
              clear hrb
              generalize gt l j = v at *
              have hv0 : ¬ ((v : Int) < 0) := by omega
              have hvn : ¬ ((n : Int) ≤ (v : Int)) := by omega
              by_cases h0 : v = 0
              · subst h0
                clear hrr
                (repeat' (first | (with_reducible first | refine L_seq ?_ | refine L_blk ?_ | refine L_skip ?_ | refine L_endblk ?_ | refine L_ret ?_ | refine L_exit ?_ | refine X_code ?_ | refine X_back ?_ | refine X_blk ?_ | refine X_past (by decide) ?_ | refine L_back ?_) | ((with_reducible refine Kof.use hK ?_); clear hK hE K E) | ((with_reducible refine Eof.use hE ?_); (try clear hK hE K E)) | ((with_reducible refine Kof.use hKh ?_); clear hKh Kh) | ((with_reducible refine Kof.use hKb (P_next ?_)); clear hKb Kb) | (with_reducible refine G_plan 13 [([0, 1, 2, 3, 4, 5, 6, 7], 8, [[]])] [9] hQe fun K E hK hE => ?_) | ((with_reducible refine W_cond (fun h => ?_) (fun h => ?_)) <;> (try (exfalso; first | assumption | omega))) | ((first | (with_reducible first | refine G_region fun K E hK hE => ?_ | refine call_ret can10 (Scheck_S _ (by assumption) _) ?_ | refine call_ret can9 (Sstr_S _ (by assumption) _) ?_ | refine call_ret can11 (RRel_S _ _ (by assumption) _) ?_ | refine call_ret can8 (Sawake_S _) ?_ | refine W_if ?_ | refine W_ifS ?_ | refine P_heads fun Kh hKh => ?_ | refine P_fin fun Kh hKh => ?_ | refine P_each fun Kb hKb => ?_ | refine W_and ?_) | ((with_reducible refine call_ex can7 (UFew_S _ (by assumption) _) (fun a h => ?_))) | ((with_reducible refine W_fresh (fun b hb => ?_)); (repeat (obtain ⟨_, hb⟩ := hb))) | ((with_reducible refine W_app (fun o2 ho => ?_)); (try simp (disch := assumption) only [disown_set, disown_own, ownok_o, ownok_m, List.length_map, List.length_cons, List.length_nil, Nat.zero_add, hll, hlj, hrx, hbl3] at ho); (repeat (obtain ⟨_, ho⟩ := ho))) | ((with_reducible refine W_gd (fun h => ?_) (fun h => ?_)) <;> (try (exfalso; first | assumption | omega)))) <;> (try simp (disch := first | assumption | omega) only [go_sem, seval, hll, hlj, hrx, hbl3, *]))))
                exact ⟨_, Fg.refl _, m' - 1, by omega, j + 1, by omega, by omega, rfl, by ((try simp (disch := first | assumption | omega) only [go_sem, seval, *]) <;> first | rfl | omega), by ((try simp (disch := first | assumption | omega) only [go_sem, seval, *]) <;> first | rfl | omega), by ((try simp (disch := first | assumption | omega) only [go_sem, seval, *]) <;> first | rfl | omega)⟩
              · have hrt : rb = true := hrr.resolve_left h0
                subst hrt
                clear hrr
                (repeat' (first | (with_reducible first | refine L_seq ?_ | refine L_blk ?_ | refine L_skip ?_ | refine L_endblk ?_ | refine L_ret ?_ | refine L_exit ?_ | refine X_code ?_ | refine X_back ?_ | refine X_blk ?_ | refine X_past (by decide) ?_ | refine L_back ?_) | ((with_reducible refine Kof.use hK ?_); clear hK hE K E) | ((with_reducible refine Eof.use hE ?_); (try clear hK hE K E)) | ((with_reducible refine Kof.use hKh ?_); clear hKh Kh) | ((with_reducible refine Kof.use hKb (P_next ?_)); clear hKb Kb) | (with_reducible refine G_plan 13 [([0, 1, 2, 3, 4, 5, 6, 7], 8, [[]])] [9] hQe fun K E hK hE => ?_) | ((with_reducible refine W_cond (fun h => ?_) (fun h => ?_)) <;> (try (exfalso; first | assumption | omega))) | ((first | (with_reducible first | refine G_region fun K E hK hE => ?_ | refine call_ret can10 (Scheck_S _ (by assumption) _) ?_ | refine call_ret can9 (Sstr_S _ (by assumption) _) ?_ | refine call_ret can11 (RRel_S _ _ (by assumption) _) ?_ | refine call_ret can8 (Sawake_S _) ?_ | refine W_if ?_ | refine W_ifS ?_ | refine P_heads fun Kh hKh => ?_ | refine P_fin fun Kh hKh => ?_ | refine P_each fun Kb hKb => ?_ | refine W_and ?_) | ((with_reducible refine call_ex can7 (UFew_S _ (by assumption) _) (fun a h => ?_))) | ((with_reducible refine W_fresh (fun b hb => ?_)); (repeat (obtain ⟨_, hb⟩ := hb))) | ((with_reducible refine W_app (fun o2 ho => ?_)); (try simp (disch := assumption) only [disown_set, disown_own, ownok_o, ownok_m, List.length_map, List.length_cons, List.length_nil, Nat.zero_add, hll, hlj, hrx, hbl3] at ho); (repeat (obtain ⟨_, ho⟩ := ho))) | ((with_reducible refine W_gd (fun h => ?_) (fun h => ?_)) <;> (try (exfalso; first | assumption | omega)))) <;> (try simp (disch := first | assumption | omega) only [go_sem, seval, hll, hlj, hrx, hbl3, *]))))
                exact ⟨_, Fg.refl _, m' - 1, by omega, j + 1, by omega, by omega, rfl, by ((try simp (disch := first | assumption | omega) only [go_sem, seval, *]) <;> first | rfl | omega), by ((try simp (disch := first | assumption | omega) only [go_sem, seval, *]) <;> first | rfl | omega), by ((try simp (disch := first | assumption | omega) only [go_sem, seval, *]) <;> first | rfl | omega)⟩
            · (repeat' (first | (with_reducible first | refine L_seq ?_ | refine L_blk ?_ | refine L_skip ?_ | refine L_endblk ?_ | refine L_ret ?_ | refine L_exit ?_ | refine X_code ?_ | refine X_back ?_ | refine X_blk ?_ | refine X_past (by decide) ?_ | refine L_back ?_) | ((with_reducible refine Kof.use hK ?_); clear hK hE K E) | ((with_reducible refine Eof.use hE ?_); (try clear hK hE K E)) | ((with_reducible refine Kof.use hKh ?_); clear hKh Kh) | ((with_reducible refine Kof.use hKb (P_next ?_)); clear hKb Kb) | (with_reducible refine G_plan 13 [([0, 1, 2, 3, 4, 5, 6, 7], 8, [[]])] [9] hQe fun K E hK hE => ?_) | ((with_reducible refine W_cond (fun h => ?_) (fun h => ?_)) <;> (try (exfalso; first | assumption | omega))) | ((first | (with_reducible first | refine G_region fun K E hK hE => ?_ | refine call_ret can10 (Scheck_S _ (by assumption) _) ?_ | refine call_ret can9 (Sstr_S _ (by assumption) _) ?_ | refine call_ret can11 (RRel_S _ _ (by assumption) _) ?_ | refine call_ret can8 (Sawake_S _) ?_ | refine W_if ?_ | refine W_ifS ?_ | refine P_heads fun Kh hKh => ?_ | refine P_fin fun Kh hKh => ?_ | refine P_each fun Kb hKb => ?_ | refine W_and ?_) | ((with_reducible refine call_ex can7 (UFew_S _ (by assumption) _) (fun a h => ?_))) | ((with_reducible refine W_fresh (fun b hb => ?_)); (repeat (obtain ⟨_, hb⟩ := hb))) | ((with_reducible refine W_app (fun o2 ho => ?_)); (try simp (disch := assumption) only [disown_set, disown_own, ownok_o, ownok_m, List.length_map, List.length_cons, List.length_nil, Nat.zero_add, hll] at ho); (repeat (obtain ⟨_, ho⟩ := ho))) | ((with_reducible refine W_gd (fun h => ?_) (fun h => ?_)) <;> (try (exfalso; first | assumption | omega)))) <;> (try simp (disch := first | assumption | omega) only [go_sem, seval, hll, *]))))
              all_goals (first | refine G_ret hQ (by simp (disch := first | assumption | omega) only [res3, go_sem, seval, *] <;> rfl) ?_ | refine G_norm hQ (by simp (disch := first | assumption | omega) only [res3, go_sem, seval, *] <;> rfl) ?_ | refine G_pan hQ ?_)
              all_goals (refine ⟨_, _, Wk.of_eq ?_, ?_, rfl, rfl⟩)
              all_goals first | rfl | exact (Fg.of_set _ hSo).trans HFS.out
  · have hs := sound_bad he
    rw [hs] at w2
    generalize soundP x = Z at *
    simp only [pgC, intsL, List.map_nil] at w1 w2 w3 w4 ⊢
    refine G_enter Tryd.func3 rfl Tryd.ntmps3 rfl fun Q hQ hQe => ?_
    (repeat' (first | (with_reducible first | refine L_seq ?_ | refine L_blk ?_ | refine L_skip ?_ | refine L_endblk ?_ | refine L_ret ?_ | refine L_exit ?_ | refine X_code ?_ | refine X_back ?_ | refine X_blk ?_ | refine X_past (by decide) ?_ | refine L_back ?_) | ((with_reducible refine Kof.use hK ?_); clear hK hE K E) | ((with_reducible refine Eof.use hE ?_); (try clear hK hE K E)) | ((with_reducible refine Kof.use hKh ?_); clear hKh Kh) | ((with_reducible refine Kof.use hKb (P_next ?_)); clear hKb Kb) | (with_reducible refine G_plan 13 [([0, 1, 2, 3, 4, 5, 6, 7], 8, [[]])] [9] hQe fun K E hK hE => ?_) | ((with_reducible refine W_cond (fun h => ?_) (fun h => ?_)) <;> (try (exfalso; first | assumption | omega))) | ((first | (with_reducible first | refine G_region fun K E hK hE => ?_ | refine call_ret can9 (w2 _) ?_ | refine call_ret can10 (w3 _) ?_ | refine call_ret can10 (Scheck_S _ (by assumption) _) ?_ | refine call_ret can9 (Sstr_S _ (by assumption) _) ?_ | refine call_ret can11 (RRel_S _ _ (by assumption) _) ?_ | refine call_ret can8 (Sawake_S _) ?_ | refine W_if ?_ | refine W_ifS ?_ | refine P_heads fun Kh hKh => ?_ | refine P_fin fun Kh hKh => ?_ | refine P_each fun Kb hKb => ?_ | refine W_and ?_) | ((with_reducible refine call_ex can7 (w1 _) (fun a h => ?_))) | ((with_reducible refine call_ex can7 (UFew_S _ (by assumption) _) (fun a h => ?_))) | ((with_reducible refine W_fresh (fun b hb => ?_)); (repeat (obtain ⟨_, hb⟩ := hb))) | ((with_reducible refine W_app (fun o2 ho => ?_)); (repeat (obtain ⟨_, ho⟩ := ho))) | ((with_reducible refine W_gd (fun h => ?_) (fun h => ?_)) <;> (try (exfalso; first | assumption | omega)))) <;> (try simp (disch := first | assumption | omega) only [go_sem, seval, *]))))
    all_goals (first | refine G_ret hQ (by simp (disch := first | assumption | omega) only [res3, go_sem, seval, *] <;> rfl) ?_ | refine G_norm hQ (by simp (disch := first | assumption | omega) only [res3, go_sem, seval, *] <;> rfl) ?_ | refine G_pan hQ ?_)
    all_goals (refine ⟨_, _, Wk.of_eq ?_, ?_, rfl, rfl⟩)
    all_goals first | rfl | ((try dsimp only); (repeat (first | exact Fg.refl _ | exact Fg.own (by assumption) | (refine Fg.set ?_ _ _) | (refine Fg.setA ?_ (by first | assumption | (simp (disch := assumption) only [own_rd, St.set, if_false, if_true, *]; done))) )); done) | skip
end Go.Proofs.YtdibndmkeipgbaaDoor
