/- What is proved: What SoundNames hands back. Conditions: what fits a memory. Conditions: those that stand in the statements. -/
import Derived.Test.YtdibndmkeipgbaaDoorZYrj
import Derived.Test.YtdibndmkeipgbaaDoorZYv
set_option linter.unusedSimpArgs false
set_option linter.unusedVariables false
set_option maxRecDepth 100000
namespace Go.Proofs.YtdibndmkeipgbaaDoor
open Go.RowKit

attribute [local go_sem] disown_fl owned_fl own_fl
theorem GS.wkobj {s : St} {b : Nat} {T : TypeId} {xs ys : List VV} (hb : s b = .obj T xs) (hl : ys.length = xs.length)
    (hw : ∀ (j : Nat) (y : VV), ys[j]? = some y → ∃ x, xs[j]? = some x ∧ Wk x y ∧ (x.one = true → y.one = true)) : GS s (s.set b (.obj T ys)) := by
  intro w0 G w h
  have hob := h.ok b
  rw [hb] at hob
  obtain ⟨hB, hn, c, hc, hsz, hx⟩ := hob
  refine ⟨h.below, h.K, h.cap, fun x => ?_, h.gl, h.rows.keep' (Gh.le.refl G) (Nat.le_refl _) (fun g _ hg => ⟨?_, rfl, fun _ => rfl⟩) (fun b' T' xs' rs' hb' => ?_)⟩
  · by_cases e : x = b
    · subst e
      rw [St.set_same]
      refine ⟨hB, hn, c, hc, hsz.trans hl.symm, fun i y hy => ?_⟩
      obtain ⟨x0, h0, h1, h2⟩ := hw i y hy
      obtain ⟨h3, v, hv, hR⟩ := hx i x0 h0
      exact ⟨h2 h3, v, hv, h1 G v hR⟩
    · rw [St.set_other _ _ e]; exact h.ok x
  · rw [St.set_other _ _ (by rintro rfl; rw [hb] at hg; cases hg)]; exact hg
  · have hne : b' ≠ b := by rintro rfl; rw [St.set_same] at hb'; cases hb'
    rw [St.set_other _ _ hne] at hb'
    exact ⟨hb', rfl⟩
theorem Wk.rows {l l' : List (List VV)} {o : Own} (hl : l'.length = l.length) (hw : ∀ (i : Nat) (x' : List VV), l'[i]? = some x' → ∃ x, l[i]? = some x ∧ WkL x x') : Wk (.lst l o) (.lst l' o) :=
  fun _ _ h => h.wkrow hl hw
def dcsN (l : List Dcl) : List (List VV) := l.map fun d => dclC (rnD d)
def rlsN (l : List Rul) : List (List VV) := l.map fun d => rulC (rnR d)
def atsN (l : List Atm) : List (List VV) := l.map fun d => atmC (rnA d)
theorem dcsN_len {l : List Dcl} : (dcsN l).length = l.length := by simp [dcsN]
theorem rlsN_len {l : List Rul} : (rlsN l).length = l.length := by simp [rlsN]
theorem atsN_len {l : List Atm} : (atsN l).length = l.length := by simp [atsN]
theorem dcsN_at {l : List Dcl} {i : Nat} {d : Dcl} (h : l[i]? = some d) : dcsN (l.take (i + 1)) = dcsN (l.take i) ++ [[.str (114 :: d.name), .lst (strs d.doms) .no]] := by unfold dcsN; rw [mtake h]; rfl
theorem atsN_at {l : List Atm} {i : Nat} {d : Atm} (h : l[i]? = some d) : atsN (l.take (i + 1)) = atsN (l.take i) ++ [[.bool d.not, .str (114 :: d.rel), .lst (d.ts.map trmC) .no]] := by unfold atsN; rw [mtake h]; rfl
theorem rlsN_at {l : List Rul} {i : Nat} {d : Rul} (h : l[i]? = some d) : rlsN (l.take (i + 1)) = rlsN (l.take i) ++ [[.bool d.head.not, .str (114 :: d.head.rel), .lst (d.head.ts.map trmC) .no, .lst (atsN d.body) .no]] := by
  unfold rlsN; rw [mtake h]
  have : rulC (rnR d) = [.bool d.head.not, .str (114 :: d.head.rel), .lst (d.head.ts.map trmC) .no, .lst (atsN d.body) .no] := by
    simp [rulC, rnR, rnA, rn, atsN, Function.comp]
  rw [this]
theorem rows_last {l : List (List VV)} {a b : List VV} (h : WkL a b) (i : Nat) (x' : List VV) (hx : (l ++ [b])[i]? = some x') : ∃ x, (l ++ [a])[i]? = some x ∧ WkL x x' := by
  by_cases hi : i < l.length
  · rw [List.getElem?_append_left hi] at hx ⊢
    exact ⟨x', hx, WkL.refl _⟩
  · rw [List.getElem?_append_right (by omega)] at hx ⊢
    cases hj : i - l.length with
    | zero => rw [hj] at hx; simp at hx; subst hx; exact ⟨a, by simp, h⟩
    | succ k => rw [hj] at hx; simp at hx
theorem sound_len (x : Pgm) : (soundP x).2.2.length ≤ x.decls.length := by
  by_cases he : (soundP x).2.1 = 0
  · obtain ⟨l, hs, _, _, hst⟩ := sound_ok he
    rw [hs]
    exact Nat.le_of_eq (stg_least hst).1
  · rw [sound_bad he]; exact Nat.zero_le _
set_option maxHeartbeats 8000000 in
theorem SoundNames_S (x : Pgm) (hx : PgmOk x) (t : St) : SRet Tryd.prog 6 [.agg (pgC x)] t (.bool true) t := by
  have w1 := fun s => UFewB_S x hx s
  have w2 := fun s => Sstr_S x hx s
  have w3 := fun s => Scheck_S x hx s
  have hle : (x.decls.map dclC).length = x.decls.length := by simp
  have hlr : (x.rules.map rulC).length = x.rules.length := by simp
  obtain ⟨hxd, hxc, hxr, _, hxo, hxp⟩ := id hx
  have HX := Lib.hid hx
  have HXO := Lib.hid hxo
  have HXP := Lib.hid hxp
  clear hx hxo hxp
  simp only [pgC] at w1 w2 w3 ⊢
  refine G_enter Tryd.func6 rfl Tryd.ntmps6 rfl fun Q hQ hQe => ?_
  (repeat' (first | (with_reducible first | refine L_seq ?_ | refine L_blk ?_ | refine L_skip ?_ | refine L_endblk ?_ | refine L_ret ?_ | refine L_exit ?_ | refine X_code ?_ | refine X_back ?_ | refine X_blk ?_ | refine X_past (by decide) ?_ | refine L_back ?_) | ((with_reducible refine Kof.use hK ?_); clear hK hE K E) | ((with_reducible refine Eof.use hE ?_); (try clear hK hE K E)) | ((with_reducible refine Kof.use hKh ?_); clear hKh Kh) | ((with_reducible refine Kof.use hKb (P_next ?_)); clear hKb Kb) | (with_reducible refine G_plan 9 [([0, 1, 2, 3, 4, 5, 6, 7, 8, 9, 10, 11, 12, 13, 14, 15, 16], 17, [[]]), ([18], 19, [[], []])] [] hQe fun K E hK hE => ?_) | ((with_reducible refine W_cond (fun h => ?_) (fun h => ?_)) <;> (try (exfalso; first | assumption | omega))) | ((first | (with_reducible first | refine G_region fun K E hK hE => ?_ | refine call_ret can10 (Scheck_S _ (by assumption) _) ?_ | refine call_ret can9 (Sstr_S _ (by assumption) _) ?_ | refine call_ret can13 (SameInts_S _ _ _ _ (by assumption) (by assumption) _) ?_ | refine call_ret can12 (digit12_S _ _) ?_ | refine call_ret can8 (Sawake_S _) ?_ | refine W_if ?_ | refine W_ifS ?_ | refine P_heads fun Kh hKh => ?_ | refine P_fin fun Kh hKh => ?_ | refine P_each fun Kb hKb => ?_ | refine W_and ?_) | ((with_reducible refine call_ex can7 (w1 _) (fun a h => ?_))) | ((with_reducible refine call_ex can7 (UFew_S _ (by assumption) _) (fun a h => ?_))) | ((with_reducible refine W_fresh (fun b hb => ?_)); (repeat (obtain ⟨_, hb⟩ := hb))) | ((with_reducible refine W_app (fun o2 ho => ?_)); (try simp (disch := assumption) only [disown_set, disown_own, ownok_o, ownok_m, List.length_map, List.length_cons, List.length_nil, Nat.zero_add, hle, hlr] at ho); (repeat (obtain ⟨_, ho⟩ := ho))) | ((with_reducible refine W_gd (fun h => ?_) (fun h => ?_)) <;> (try (exfalso; first | assumption | omega)))) <;> (try simp (disch := first | assumption | omega) only [go_sem, seval, hle, hlr, *]))))
  · all_goals (first | refine G_ret hQ (by simp (disch := first | assumption | omega) only [res6, go_sem, seval, *] <;> rfl) ?_ | refine G_norm hQ (by simp (disch := first | assumption | omega) only [res6, go_sem, seval, *] <;> rfl) ?_ | refine G_pan hQ ?_)
    all_goals (refine ⟨_, _, Wk.of_eq ?_, ?_, rfl, rfl⟩)
    all_goals first | rfl | ((try dsimp only); (repeat (first | exact Fg.refl _ | exact Fg.own (by assumption) | (refine Fg.set ?_ _ _) | (refine Fg.setA ?_ (by first | assumption | (simp (disch := assumption) only [own_rd, St.set, if_false, if_true, *]; done))) )); done)
  rename_i bp hbp hfew nbq _
  obtain ⟨bq, hbq⟩ : ∃ z, z = b := ⟨_, rfl⟩
  subst hbq
  have hfw := hfew h
  obtain ⟨_, hfd, hfr, _, hfb⟩ := hfw
  have HFB := Lib.hid hfb
  have hSp : (t.set bp (.obj 26 [.lst (x.doms.map dmC) .no, .lst (x.decls.map dclC) .no, .lst (x.rules.map rulC) .no])) bp = (.obj 26 [.lst (x.doms.map dmC) .no, .lst (x.decls.map dclC) .no, .lst (x.rules.map rulC) .no]) := St.set_same _ _ _
  have hSq : (t.set bp (.obj 26 [.lst (x.doms.map dmC) .no, .lst (x.decls.map dclC) .no, .lst (x.rules.map rulC) .no])) bq = .free := by rw [St.set_other _ _ nbq]; exact hb
  have hFS : Fg (t.set bp (.obj 26 [.lst (x.doms.map dmC) .no, .lst (x.decls.map dclC) .no, .lst (x.rules.map rulC) .no])) t := Fg.of_set _ hbp
  generalize t.set bp (.obj 26 [.lst (x.doms.map dmC) .no, .lst (x.decls.map dclC) .no, .lst (x.rules.map rulC) .no]) = S at *
  have HFS := Lib.hid hFS
  have hSpf : S bp ≠ .free := by rw [hSp]; simp
  clear hFS hbp hb hfew hfb h
  refine G_loop (fun m env s' => ∃ (i : Nat) (o : Own), i ≤ x.decls.length ∧ m + i = x.decls.length ∧ OwnOk S o i ∧ NotOwn o bq ∧ Hid (∀ d, d ∈ x.decls.take i → d.name ≠ [] ∧ d.name.length ≤ 20) ∧
    s' = (S.own o 50 2 i).set bq (.obj 26 [.lst (x.doms.map dmC) .no, .lst (dcsN (x.decls.take i)) o, .lst [] .full]) ∧ env 1 = .ptr bp 0 ∧ env 3 = .ptr bq 0 ∧ env 4 = .int .i64 i) x.decls.length ?_ ?_
  · exact ⟨_, Fg.refl _, 0, .full, by omega, by omega, ownok_nil, trivial, Lib.hid (fun d hd => by simp at hd), rfl, by ((try simp (disch := first | assumption | omega) only [go_sem, seval, *]) <;> first | rfl | omega), by ((try simp (disch := first | assumption | omega) only [go_sem, seval, *]) <;> first | rfl | omega), by ((try simp (disch := first | assumption | omega) only [go_sem, seval, *]) <;> first | rfl | omega)⟩
  · rintro m env s' ⟨i, o, hi, hm, ho, hoq, HN, rfl, e1, e3, e4⟩
    have hop := ho.not hSpf
    by_cases hlt : i < x.decls.length
    · obtain ⟨d, hd⟩ := uget hlt
      have hsx := dclC_at hd
      have hdo := HXO.out d (List.mem_of_getElem? hd)
      have hln : (dcsN (x.decls.take i)).length = i := by rw [dcsN_len, List.length_take]; omega
      have HD := Lib.hid hd
      have hdl := hdo.1
      clear hd hdo
      obtain ⟨dn, dd⟩ := d
      simp only at hdl
      (repeat' (first | (with_reducible first | refine L_seq ?_ | refine L_blk ?_ | refine L_skip ?_ | refine L_endblk ?_ | refine L_ret ?_ | refine L_exit ?_ | refine X_code ?_ | refine X_back ?_ | refine X_blk ?_ | refine X_past (by decide) ?_ | refine L_back ?_) | ((with_reducible refine Kof.use hK ?_); clear hK hE K E) | ((with_reducible refine Eof.use hE ?_); (try clear hK hE K E)) | ((with_reducible refine Kof.use hKh ?_); clear hKh Kh) | ((with_reducible refine Kof.use hKb (P_next ?_)); clear hKb Kb) | (with_reducible refine G_plan 9 [([0, 1, 2, 3, 4, 5, 6, 7, 8, 9, 10, 11, 12, 13, 14, 15, 16], 17, [[]]), ([18], 19, [[], []])] [] hQe fun K E hK hE => ?_) | ((with_reducible refine W_cond (fun h => ?_) (fun h => ?_)) <;> (try (exfalso; first | assumption | omega))) | ((first | (with_reducible first | refine G_region fun K E hK hE => ?_ | refine call_ret can10 (Scheck_S _ (by assumption) _) ?_ | refine call_ret can9 (Sstr_S _ (by assumption) _) ?_ | refine call_ret can13 (SameInts_S _ _ _ _ (by assumption) (by assumption) _) ?_ | refine call_ret can12 (digit12_S _ _) ?_ | refine call_ret can8 (Sawake_S _) ?_ | refine W_if ?_ | refine W_ifS ?_ | refine P_heads fun Kh hKh => ?_ | refine P_fin fun Kh hKh => ?_ | refine P_each fun Kb hKb => ?_ | refine W_and ?_) | ((with_reducible refine call_ex can7 (UFew_S _ (by assumption) _) (fun a h => ?_))) | ((with_reducible refine W_fresh (fun b hb => ?_)); (repeat (obtain ⟨_, hb⟩ := hb))) | ((with_reducible refine W_app (fun o2 ho => ?_)); (try simp (disch := assumption) only [disown_set, disown_own, ownok_o, ownok_m, List.length_map, List.length_cons, List.length_nil, Nat.zero_add, hle, hsx, dclC, hln] at ho); (repeat (obtain ⟨_, ho⟩ := ho))) | ((with_reducible refine W_gd (fun h => ?_) (fun h => ?_)) <;> (try (exfalso; first | assumption | omega)))) <;> (try simp (disch := first | assumption | omega) only [go_sem, seval, hle, hsx, dclC, hln, *]))))
      · (first | refine G_ret hQ (by simp (disch := first | assumption | omega) only [res6, go_sem, seval, *] <;> rfl) ?_ | refine G_norm hQ (by simp (disch := first | assumption | omega) only [res6, go_sem, seval, *] <;> rfl) ?_ | refine G_pan hQ ?_)
        (refine ⟨_, _, Wk.of_eq ?_, ?_, rfl, rfl⟩)
        · rfl
        · exact (Fg.of_set _ (by rw [own_fr]; exact ⟨hoq, hSq⟩)).trans ((Fg.own ho).trans HFS.out)
      · (first | refine G_ret hQ (by simp (disch := first | assumption | omega) only [res6, go_sem, seval, *] <;> rfl) ?_ | refine G_norm hQ (by simp (disch := first | assumption | omega) only [res6, go_sem, seval, *] <;> rfl) ?_ | refine G_pan hQ ?_)
        (refine ⟨_, _, Wk.of_eq ?_, ?_, rfl, rfl⟩)
        · rfl
        · exact (Fg.of_set _ (by rw [own_fr]; exact ⟨hoq, hSq⟩)).trans ((Fg.own ho).trans HFS.out)
      · rename_i h1 _
        refine ⟨_, Fg.refl _, m - 1, by omega, i + 1, o2, by omega, by omega, ho, by assumption, Lib.hid (fun d hd => ?_), by rw [dcsN_at HD.out], by ((try simp (disch := first | assumption | omega) only [go_sem, seval, *]) <;> first | rfl | omega), by ((try simp (disch := first | assumption | omega) only [go_sem, seval, *]) <;> first | rfl | omega), by ((try simp (disch := first | assumption | omega) only [go_sem, seval, *]) <;> first | rfl | omega)⟩
        rw [utake HD.out] at hd
        rcases List.mem_append.1 hd with h2 | h2
        · exact HN.out d h2
        · rw [List.mem_singleton] at h2; subst h2; exact ⟨h, by simp only; omega⟩
    · have hN := HN.out
      have hie : i = x.decls.length := by omega
      rw [List.take_of_length_le (by omega)] at hN ⊢
      have HN2 := Lib.hid hN
      clear hN HN
      (repeat' (first | (with_reducible first | refine L_seq ?_ | refine L_blk ?_ | refine L_skip ?_ | refine L_endblk ?_ | refine L_ret ?_ | refine L_exit ?_ | refine X_code ?_ | refine X_back ?_ | refine X_blk ?_ | refine X_past (by decide) ?_ | refine L_back ?_) | ((with_reducible refine Kof.use hK ?_); clear hK hE K E) | ((with_reducible refine Eof.use hE ?_); (try clear hK hE K E)) | ((with_reducible refine Kof.use hKh ?_); clear hKh Kh) | ((with_reducible refine Kof.use hKb (P_next ?_)); clear hKb Kb) | (with_reducible refine G_plan 9 [([0, 1, 2, 3, 4, 5, 6, 7, 8, 9, 10, 11, 12, 13, 14, 15, 16], 17, [[]]), ([18], 19, [[], []])] [] hQe fun K E hK hE => ?_) | ((with_reducible refine W_cond (fun h => ?_) (fun h => ?_)) <;> (try (exfalso; first | assumption | omega))) | ((first | (with_reducible first | refine G_region fun K E hK hE => ?_ | refine call_ret can10 (Scheck_S _ (by assumption) _) ?_ | refine call_ret can9 (Sstr_S _ (by assumption) _) ?_ | refine call_ret can13 (SameInts_S _ _ _ _ (by assumption) (by assumption) _) ?_ | refine call_ret can12 (digit12_S _ _) ?_ | refine call_ret can8 (Sawake_S _) ?_ | refine W_if ?_ | refine W_ifS ?_ | refine P_heads fun Kh hKh => ?_ | refine P_fin fun Kh hKh => ?_ | refine P_each fun Kb hKb => ?_ | refine W_and ?_) | ((with_reducible refine call_ex can7 (UFew_S _ (by assumption) _) (fun a h => ?_))) | ((with_reducible refine W_fresh (fun b hb => ?_)); (repeat (obtain ⟨_, hb⟩ := hb))) | ((with_reducible refine W_app (fun o2 ho => ?_)); (try simp (disch := assumption) only [disown_set, disown_own, ownok_o, ownok_m, List.length_map, List.length_cons, List.length_nil, Nat.zero_add, hle] at ho); (repeat (obtain ⟨_, ho⟩ := ho))) | ((with_reducible refine W_gd (fun h => ?_) (fun h => ?_)) <;> (try (exfalso; first | assumption | omega)))) <;> (try simp (disch := first | assumption | omega) only [go_sem, seval, hle, *]))))
      subst hie
      have hUp : (S.own o 50 2 x.decls.length) bp = S bp := own_rd hop
      rw [hSp] at hUp
      have hUq : (S.own o 50 2 x.decls.length) bq = .free := by rw [own_fr]; exact ⟨hoq, hSq⟩
      have hFU : Fg (S.own o 50 2 x.decls.length) t := (Fg.own ho).trans HFS.out
      generalize S.own o 50 2 x.decls.length = U at *
      have hUpf : U bp ≠ .free := by rw [hUp]; simp
      have HFU := Lib.hid hFU
      clear hFU ho hoq hop e4 hm hi HFS hSp hSq hSpf
      refine G_loopS (fun m env s' => ∃ (i : Nat) (o : Own), i ≤ x.rules.length ∧ m + i = x.rules.length ∧ OwnOk U o i ∧ NotOwn o bq ∧ Hid (∀ d, d ∈ x.rules.take i → RulN d) ∧
        s' = (U.own o 42 4 i).set bq (.obj 26 [.lst (x.doms.map dmC) .no, .lst (dcsN x.decls) .no, .lst (rlsN (x.rules.take i)) o]) ∧ env 1 = .ptr bp 0 ∧ env 3 = .ptr bq 0 ∧ env 5 = .int .i64 i) x.rules.length ?_ ?_
      · refine ⟨_, GS.wkobj (b := bq) (ys := [.lst (x.doms.map dmC) .no, .lst (dcsN x.decls) .no, .lst [] .full]) (St.set_same _ _ _) rfl (fun j y hy => ?_), 0, .full, by omega, by omega, ownok_nil, trivial, Lib.hid (fun d hd => by simp at hd), by rw [St.set_set]; rfl, by ((try simp (disch := first | assumption | omega) only [go_sem, seval, *]) <;> first | rfl | omega), by ((try simp (disch := first | assumption | omega) only [go_sem, seval, *]) <;> first | rfl | omega), by ((try simp (disch := first | assumption | omega) only [go_sem, seval, *]) <;> first | rfl | omega)⟩
        match j with
        | 0 => simp at hy; subst hy; exact ⟨_, rfl, Wk.refl _, id⟩
        | 1 => simp at hy; subst hy; exact ⟨_, rfl, Wk.lst _ _, id⟩
        | 2 => simp at hy; subst hy; exact ⟨_, rfl, Wk.refl _, id⟩
        | j + 3 => simp at hy
      · clear e1 e3 env m
        rintro m env s' ⟨i, o, hi, hm, ho, hoq, HN, rfl, e1, e3, e5⟩
        have hop := ho.not hUpf
        by_cases hlt : i < x.rules.length
        · obtain ⟨r, hr⟩ := uget hlt
          have hsx := rulC_at hr
          have hln : (rlsN (x.rules.take i)).length = i := by rw [rlsN_len, List.length_take]; omega
          have hmem := List.mem_of_getElem? hr
          obtain ⟨⟨hr1, hr2, _⟩, hr3, hr4⟩ := HXP.out r hmem
          have hrb := HFB.out r hmem
          have HR4 := Lib.hid hr4
          have HR := Lib.hid hr
          clear hr hmem hr4
          have hW : ∃ W, W = (U.own o 42 4 i).set bq (.obj 26 [.lst (x.doms.map dmC) .no, .lst (dcsN x.decls) .no, .lst (rlsN (x.rules.take i)) o]) := ⟨_, rfl⟩
          obtain ⟨W, hW⟩ := hW
          have hWp : W bp = U bp := by rw [hW, St.set_other _ _ (nef hUq hUpf).1, own_rd hop]
          have hWq : W bq = (.obj 26 [.lst (x.doms.map dmC) .no, .lst (dcsN x.decls) .no, .lst (rlsN (x.rules.take i)) o]) := by rw [hW, St.set_same]
          rw [hUp] at hWp
          have hFW : Fg W t := by rw [hW]; exact (Fg.of_set _ (by rw [own_fr]; exact ⟨hoq, hUq⟩)).trans ((Fg.own ho).trans HFU.out)
          rw [← hW]
          have HW := Lib.hid hW
          have HFW := Lib.hid hFW
          have hWpf : W bp ≠ .free := by rw [hWp]; simp
          have hWqf : W bq ≠ .free := by rw [hWq]; simp
          clear hW hFW
          obtain ⟨⟨rn1, rr, rts⟩, rb⟩ := r
          simp only at hr1 hr2 hr3 hrb
          have hbl : (rb.map atmC).length = rb.length := by simp
          (repeat' (first | (with_reducible first | refine L_seq ?_ | refine L_blk ?_ | refine L_skip ?_ | refine L_endblk ?_ | refine L_ret ?_ | refine L_exit ?_ | refine X_code ?_ | refine X_back ?_ | refine X_blk ?_ | refine X_past (by decide) ?_ | refine L_back ?_) | ((with_reducible refine Kof.use hK ?_); clear hK hE K E) | ((with_reducible refine Eof.use hE ?_); (try clear hK hE K E)) | ((with_reducible refine Kof.use hKh ?_); clear hKh Kh) | ((with_reducible refine Kof.use hKb (P_next ?_)); clear hKb Kb) | (with_reducible refine G_plan 9 [([0, 1, 2, 3, 4, 5, 6, 7, 8, 9, 10, 11, 12, 13, 14, 15, 16], 17, [[]]), ([18], 19, [[], []])] [] hQe fun K E hK hE => ?_) | ((with_reducible refine W_cond (fun h => ?_) (fun h => ?_)) <;> (try (exfalso; first | assumption | omega))) | ((first | (with_reducible first | refine G_region fun K E hK hE => ?_ | refine call_ret can12 (digit12_S _ _) ?_ | refine call_ret can10 (Scheck_S _ (by assumption) _) ?_ | refine call_ret can9 (Sstr_S _ (by assumption) _) ?_ | refine call_ret can13 (SameInts_S _ _ _ _ (by assumption) (by assumption) _) ?_ | refine call_ret can12 (digit12_S _ _) ?_ | refine call_ret can8 (Sawake_S _) ?_ | refine W_if ?_ | refine W_ifS ?_ | refine P_heads fun Kh hKh => ?_ | refine P_fin fun Kh hKh => ?_ | refine P_each fun Kb hKb => ?_ | refine W_and ?_) | ((with_reducible refine call_ex can7 (UFew_S _ (by assumption) _) (fun a h => ?_))) | ((with_reducible refine W_fresh (fun b hb => ?_)); (repeat (obtain ⟨_, hb⟩ := hb)); (try (obtain ⟨_, _⟩ := nef hb hWpf; obtain ⟨_, _⟩ := nef hb hWqf))) | ((with_reducible refine W_app (fun o2 ho => ?_)); (try simp (disch := assumption) only [disown_set, disown_own, ownok_o, ownok_m, List.length_map, List.length_cons, List.length_nil, Nat.zero_add, hlr, hsx, rulC, hbl] at ho); (repeat (obtain ⟨_, ho⟩ := ho))) | ((with_reducible refine W_gd (fun h => ?_) (fun h => ?_)) <;> (try (exfalso; first | assumption | omega)))) <;> (try simp (disch := first | assumption | omega) only [go_sem, seval, hlr, hsx, rulC, hbl, *]))))
          all_goals first
            | ((first | refine G_ret hQ (by simp (disch := first | assumption | omega) only [res6, go_sem, seval, *] <;> rfl) ?_ | refine G_norm hQ (by simp (disch := first | assumption | omega) only [res6, go_sem, seval, *] <;> rfl) ?_ | refine G_pan hQ ?_)
               (refine ⟨_, _, Wk.of_eq ?_, ?_, rfl, rfl⟩)
               · rfl
               · exact (Fg.of_set _ hb).trans HFW.out)
            | skip
          rename_i bx hbx n1 n2 n3 n4 g20 gnil gel gdom grel n5 n6 n7 n8 n9 n10
          obtain ⟨by_, hby⟩ : ∃ z, z = b := ⟨_, rfl⟩
          subst hby
          have HNM := Lib.hid (show Nmd rr ∧ rr ≠ [101, 108] ∧ rr ≠ [100, 111, 109] ∧ rr ≠ [114, 101, 108] from ⟨⟨gnil, by omega, h⟩, gel, gdom, grel⟩)
          clear g20 gnil gel gdom grel h
          have hVx : (W.set bx (.obj 42 [.bool rn1, .str rr, .lst (rts.map trmC) .no, .lst (rb.map atmC) .no])) bx = (.obj 42 [.bool rn1, .str rr, .lst (rts.map trmC) .no, .lst (rb.map atmC) .no]) := St.set_same _ _ _
          have hVp := (St.set_other W (.obj 42 [.bool rn1, .str rr, .lst (rts.map trmC) .no, .lst (rb.map atmC) .no]) n1).trans hWp
          have hVq := (St.set_other W (.obj 42 [.bool rn1, .str rr, .lst (rts.map trmC) .no, .lst (rb.map atmC) .no]) n3).trans hWq
          have hVb := (St.set_other W (.obj 42 [.bool rn1, .str rr, .lst (rts.map trmC) .no, .lst (rb.map atmC) .no]) n5).trans hb
          have hFV : Fg (W.set bx (.obj 42 [.bool rn1, .str rr, .lst (rts.map trmC) .no, .lst (rb.map atmC) .no])) W := Fg.of_set _ hbx
          have hVe : ∃ V, V = W.set bx (.obj 42 [.bool rn1, .str rr, .lst (rts.map trmC) .no, .lst (rb.map atmC) .no]) := ⟨_, rfl⟩
          obtain ⟨V, hVe⟩ := hVe
          rw [← hVe] at hVx hVp hVq hVb hFV ⊢
          have HVE := Lib.hid hVe
          have HFV := Lib.hid hFV
          have HBX := Lib.hid hbx
          have hVpf : V bp ≠ .free := by rw [hVp]; simp
          have hVqf : V bq ≠ .free := by rw [hVq]; simp
          have hVxf : V bx ≠ .free := by rw [hVx]; simp
          clear hVe hFV hbx hb hWp hWq hWpf hWqf hop
          refine G_loop (fun m' env s' => ∃ (k : Nat) (o3 : Own), k ≤ rb.length ∧ m' + k = rb.length ∧ OwnOk V o3 k ∧ NotOwn o3 by_ ∧ Hid (∀ a, a ∈ rb.take k → Nmd a.rel) ∧
            s' = (V.own o3 39 3 k).set by_ (.obj 42 [.bool rn1, .str (114 :: rr), .lst (rts.map trmC) .no, .lst (atsN (rb.take k)) o3]) ∧ env 1 = .ptr bp 0 ∧ env 3 = .ptr bq 0 ∧ env 5 = .int .i64 i ∧ env 6 = .ptr bx 0 ∧ env 7 = .ptr by_ 0 ∧ env 8 = .int .i64 k) rb.length ?_ ?_
          · exact ⟨_, Fg.refl _, 0, .full, by omega, by omega, ownok_nil, trivial, Lib.hid (fun d hd => by simp at hd), rfl, by ((try simp (disch := first | assumption | omega) only [go_sem, seval, *]) <;> first | rfl | omega), by ((try simp (disch := first | assumption | omega) only [go_sem, seval, *]) <;> first | rfl | omega), by ((try simp (disch := first | assumption | omega) only [go_sem, seval, *]) <;> first | rfl | omega), by ((try simp (disch := first | assumption | omega) only [go_sem, seval, *]) <;> first | rfl | omega), by ((try simp (disch := first | assumption | omega) only [go_sem, seval, *]) <;> first | rfl | omega), by ((try simp (disch := first | assumption | omega) only [go_sem, seval, *]) <;> first | rfl | omega)⟩
          · clear e1 e3 e5
            rintro m' env s' ⟨k, o3, hk, hm', ho3, ho3y, HNB, rfl, e1, e3, e5, e6, e7, e8⟩
            have hxn := ho3.not hVxf
            have hpn := ho3.not hVpf
            have hqn := ho3.not hVqf
            by_cases hlk : k < rb.length
            · obtain ⟨c, hc⟩ := uget hlk
              have hsy := atmC_at hc
              have hcl := (HR4.out c (List.mem_of_getElem? hc)).1
              have hlm : (atsN (rb.take k)).length = k := by rw [atsN_len, List.length_take]; omega
              have HC := Lib.hid hc
              clear hc
              obtain ⟨cn, cr, cts⟩ := c
              simp only at hcl
              (repeat' (first | (with_reducible first | refine L_seq ?_ | refine L_blk ?_ | refine L_skip ?_ | refine L_endblk ?_ | refine L_ret ?_ | refine L_exit ?_ | refine X_code ?_ | refine X_back ?_ | refine X_blk ?_ | refine X_past (by decide) ?_ | refine L_back ?_) | ((with_reducible refine Kof.use hK ?_); clear hK hE K E) | ((with_reducible refine Eof.use hE ?_); (try clear hK hE K E)) | ((with_reducible refine Kof.use hKh ?_); clear hKh Kh) | ((with_reducible refine Kof.use hKb (P_next ?_)); clear hKb Kb) | (with_reducible refine G_plan 9 [([0, 1, 2, 3, 4, 5, 6, 7, 8, 9, 10, 11, 12, 13, 14, 15, 16], 17, [[]]), ([18], 19, [[], []])] [] hQe fun K E hK hE => ?_) | ((with_reducible refine W_cond (fun h => ?_) (fun h => ?_)) <;> (try (exfalso; first | assumption | omega))) | ((first | (with_reducible first | refine G_region fun K E hK hE => ?_ | refine call_ret can12 (digit12_S _ _) ?_ | refine call_ret can10 (Scheck_S _ (by assumption) _) ?_ | refine call_ret can9 (Sstr_S _ (by assumption) _) ?_ | refine call_ret can13 (SameInts_S _ _ _ _ (by assumption) (by assumption) _) ?_ | refine call_ret can12 (digit12_S _ _) ?_ | refine call_ret can8 (Sawake_S _) ?_ | refine W_if ?_ | refine W_ifS ?_ | refine P_heads fun Kh hKh => ?_ | refine P_fin fun Kh hKh => ?_ | refine P_each fun Kb hKb => ?_ | refine W_and ?_) | ((with_reducible refine call_ex can7 (UFew_S _ (by assumption) _) (fun a h => ?_))) | ((with_reducible refine W_fresh (fun b hb => ?_)); (repeat (obtain ⟨_, hb⟩ := hb)); (try (rw [own_fr] at hb; obtain ⟨hob, hb⟩ := hb; obtain ⟨_, _⟩ := nef hb hVpf; obtain ⟨_, _⟩ := nef hb hVqf; obtain ⟨_, _⟩ := nef hb hVxf))) | ((with_reducible refine W_app (fun o2 ho => ?_)); (try simp (disch := assumption) only [disown_set, disown_own, ownok_o, ownok_m, List.length_map, List.length_cons, List.length_nil, Nat.zero_add, hbl, hsy, atmC, hlm] at ho); (repeat (obtain ⟨_, ho⟩ := ho))) | ((with_reducible refine W_gd (fun h => ?_) (fun h => ?_)) <;> (try (exfalso; first | assumption | omega)))) <;> (try simp (disch := first | assumption | omega) only [go_sem, seval, hbl, hsy, atmC, hlm, *]))))
              all_goals first
                | ((first | refine G_ret hQ (by simp (disch := first | assumption | omega) only [res6, go_sem, seval, *] <;> rfl) ?_ | refine G_norm hQ (by simp (disch := first | assumption | omega) only [res6, go_sem, seval, *] <;> rfl) ?_ | refine G_pan hQ ?_)
                   (refine ⟨_, _, Wk.of_eq ?_, ?_, rfl, rfl⟩)
                   · rfl
                   · exact (by ((try dsimp only); (repeat (first | exact Fg.refl _ | exact Fg.own (by assumption) | (refine Fg.set ?_ _ _) | (refine Fg.setA ?_ (by first | assumption | (simp (disch := assumption) only [own_rd, St.set, if_false, if_true, *]; done))) )); done) : Fg _ V).trans (HFV.out.trans HFW.out))
                | skip
              refine ⟨_, Fg.of_set _ (by rw [St.set_other _ _ (by assumption), own_fr]; exact ⟨by assumption, hb⟩), m' - 1, by omega, k + 1, o2, by omega, by omega, ho, by assumption, Lib.hid (fun d hd => ?_), by rw [atsN_at HC.out], by ((try simp (disch := first | assumption | omega) only [go_sem, seval, *]) <;> first | rfl | omega), by ((try simp (disch := first | assumption | omega) only [go_sem, seval, *]) <;> first | rfl | omega), by ((try simp (disch := first | assumption | omega) only [go_sem, seval, *]) <;> first | rfl | omega), by ((try simp (disch := first | assumption | omega) only [go_sem, seval, *]) <;> first | rfl | omega), by ((try simp (disch := first | assumption | omega) only [go_sem, seval, *]) <;> first | rfl | omega), by ((try simp (disch := first | assumption | omega) only [go_sem, seval, *]) <;> first | rfl | omega)⟩
              rw [utake HC.out] at hd
              rcases List.mem_append.1 hd with h2 | h2
              · exact HNB.out d h2
              · rw [List.mem_singleton] at h2; subst h2; exact ⟨by assumption, by simp only; omega, by assumption⟩
            · have hN := HNB.out
              rw [List.take_of_length_le (by omega)] at hN ⊢
              have HNB2 := Lib.hid hN
              clear hN HNB hxn hpn hqn
              refine Kp_forget (s' := V.set by_ (.obj 42 [.bool rn1, .str (114 :: rr), .lst (rts.map trmC) .no, .lst (atsN rb) o3])) (Fg.set (Fg.own ho3) _ _) ?_
              have hbx := HBX.out
              have hwe := HW.out
              have hve := HVE.out
              have nbx : ¬ bx = bq := by assumption
              rw [hwe, St.set_other _ _ nbx, own_fr] at hbx
              obtain ⟨hox, hbx⟩ := hbx
              have nyq : ¬ by_ = bq := (nef hVb hVqf).2
              rw [hve, St.set_other _ _ n5, hwe, St.set_other _ _ nyq, own_fr] at hVb
              obtain ⟨hoy, hby⟩ := hVb
              subst hve
              subst hwe
              clear hVx hVp hVq hVpf hVqf hVxf HVE HW
              (repeat' (first | (with_reducible first | refine L_seq ?_ | refine L_blk ?_ | refine L_skip ?_ | refine L_endblk ?_ | refine L_ret ?_ | refine L_exit ?_ | refine X_code ?_ | refine X_back ?_ | refine X_blk ?_ | refine X_past (by decide) ?_ | refine L_back ?_) | ((with_reducible refine Kof.use hK ?_); clear hK hE K E) | ((with_reducible refine Eof.use hE ?_); (try clear hK hE K E)) | ((with_reducible refine Kof.use hKh ?_); clear hKh Kh) | ((with_reducible refine Kof.use hKb (P_next ?_)); clear hKb Kb) | (with_reducible refine G_plan 9 [([0, 1, 2, 3, 4, 5, 6, 7, 8, 9, 10, 11, 12, 13, 14, 15, 16], 17, [[]]), ([18], 19, [[], []])] [] hQe fun K E hK hE => ?_) | ((with_reducible refine W_cond (fun h => ?_) (fun h => ?_)) <;> (try (exfalso; first | assumption | omega))) | ((first | (with_reducible first | refine G_region fun K E hK hE => ?_ | refine call_ret can10 (Scheck_S _ (by assumption) _) ?_ | refine call_ret can9 (Sstr_S _ (by assumption) _) ?_ | refine call_ret can13 (SameInts_S _ _ _ _ (by assumption) (by assumption) _) ?_ | refine call_ret can12 (digit12_S _ _) ?_ | refine call_ret can8 (Sawake_S _) ?_ | refine W_if ?_ | refine W_ifS ?_ | refine P_heads fun Kh hKh => ?_ | refine P_fin fun Kh hKh => ?_ | refine P_each fun Kb hKb => ?_ | refine W_and ?_) | ((with_reducible refine call_ex can7 (UFew_S _ (by assumption) _) (fun a h => ?_))) | ((with_reducible refine W_fresh (fun b hb => ?_)); (repeat (obtain ⟨_, hb⟩ := hb))) | ((with_reducible refine W_app (fun o2 ho => ?_)); (try simp (disch := assumption) only [disown_set, disown_own, ownok_o, ownok_m, List.length_map, List.length_cons, List.length_nil, Nat.zero_add, hln] at ho); (repeat (obtain ⟨_, ho⟩ := ho))) | ((with_reducible refine W_gd (fun h => ?_) (fun h => ?_)) <;> (try (exfalso; first | assumption | omega)))) <;> (try simp (disch := first | assumption | omega) only [go_sem, seval, hln, *]))))
              rename_i m1 m2 m3
              refine ⟨_, (GS.of_fg ((Fg.of_set _ (by rw [St.set_other _ _ n5, St.set_other _ _ nyq, own_fr]; exact ⟨m1, hby⟩)).trans (Fg.of_set _ (by rw [St.set_other _ _ nbx, own_fr]; exact ⟨m2, hbx⟩)))).trans (GS.wkobj (b := bq) (ys := [.lst (x.doms.map dmC) .no, .lst (dcsN x.decls) .no, .lst (rlsN (x.rules.take (i + 1))) o2]) (St.set_same _ _ _) rfl (fun j y hy => ?_)),
                m - 1, by omega, i + 1, o2, by omega, by omega, ho, m3, Lib.hid (fun d hd => ?_), by rw [St.set_set], by ((try simp (disch := first | assumption | omega) only [go_sem, seval, *]) <;> first | rfl | omega), by ((try simp (disch := first | assumption | omega) only [go_sem, seval, *]) <;> first | rfl | omega), by ((try simp (disch := first | assumption | omega) only [go_sem, seval, *]) <;> first | rfl | omega)⟩
              · match j with
                | 0 => simp at hy; subst hy; exact ⟨_, rfl, Wk.refl _, id⟩
                | 1 => simp at hy; subst hy; exact ⟨_, rfl, Wk.refl _, id⟩
                | 2 =>
                  simp at hy; subst hy
                  refine ⟨_, rfl, ?_, id⟩
                  rw [rlsN_at HR.out]
                  exact Wk.rows (by simp) (rows_last (.same _ (.same _ (.same _ (.lst _ _ .nil)))))
                | j + 3 => simp at hy
              · rw [utake HR.out] at hd
                rcases List.mem_append.1 hd with h2 | h2
                · exact HN.out d h2
                · rw [List.mem_singleton] at h2; subst h2
                  obtain ⟨g1, g2, g3, g4⟩ := HNM.out
                  exact ⟨g1, g2, g3, g4, HNB2.out⟩
        · have hN := HN.out
          have hie : i = x.rules.length := by omega
          subst hie
          rw [List.take_of_length_le (Nat.le_refl _)] at hN ⊢
          have HN3 := Lib.hid hN
          clear hN HN
          (repeat' (first | (with_reducible first | refine L_seq ?_ | refine L_blk ?_ | refine L_skip ?_ | refine L_endblk ?_ | refine L_ret ?_ | refine L_exit ?_ | refine X_code ?_ | refine X_back ?_ | refine X_blk ?_ | refine X_past (by decide) ?_ | refine L_back ?_) | ((with_reducible refine Kof.use hK ?_); clear hK hE K E) | ((with_reducible refine Eof.use hE ?_); (try clear hK hE K E)) | ((with_reducible refine Kof.use hKh ?_); clear hKh Kh) | ((with_reducible refine Kof.use hKb (P_next ?_)); clear hKb Kb) | (with_reducible refine G_plan 9 [([0, 1, 2, 3, 4, 5, 6, 7, 8, 9, 10, 11, 12, 13, 14, 15, 16], 17, [[]]), ([18], 19, [[], []])] [] hQe fun K E hK hE => ?_) | ((with_reducible refine W_cond (fun h => ?_) (fun h => ?_)) <;> (try (exfalso; first | assumption | omega))) | ((first | (with_reducible first | refine G_region fun K E hK hE => ?_ | refine call_ret can10 (Scheck_S _ (by assumption) _) ?_ | refine call_ret can9 (Sstr_S _ (by assumption) _) ?_ | refine call_ret can13 (SameInts_S _ _ _ _ (by assumption) (by assumption) _) ?_ | refine call_ret can12 (digit12_S _ _) ?_ | refine call_ret can8 (Sawake_S _) ?_ | refine W_if ?_ | refine W_ifS ?_ | refine P_heads fun Kh hKh => ?_ | refine P_fin fun Kh hKh => ?_ | refine P_each fun Kb hKb => ?_ | refine W_and ?_) | ((with_reducible refine call_ex can7 (UFew_S _ (by assumption) _) (fun a h => ?_))) | ((with_reducible refine W_fresh (fun b hb => ?_)); (repeat (obtain ⟨_, hb⟩ := hb))) | ((with_reducible refine W_app (fun o2 ho => ?_)); (try simp (disch := assumption) only [disown_set, disown_own, ownok_o, ownok_m, List.length_map, List.length_cons, List.length_nil, Nat.zero_add, hlr] at ho); (repeat (obtain ⟨_, ho⟩ := ho))) | ((with_reducible refine W_gd (fun h => ?_) (fun h => ?_)) <;> (try (exfalso; first | assumption | omega)))) <;> (try simp (disch := first | assumption | omega) only [go_sem, seval, hlr, *]))))
          have hZp : ((U.own o 42 4 x.rules.length).set bq (.obj 26 [.lst (x.doms.map dmC) .no, .lst (dcsN x.decls) .no, .lst (rlsN x.rules) o])) bp = (.obj 26 [.lst (x.doms.map dmC) .no, .lst (x.decls.map dclC) .no, .lst (x.rules.map rulC) .no]) := by rw [St.set_other _ _ (nef hUq hUpf).1, own_rd hop]; exact hUp
          have hZq : ((U.own o 42 4 x.rules.length).set bq (.obj 26 [.lst (x.doms.map dmC) .no, .lst (dcsN x.decls) .no, .lst (rlsN x.rules) o])) bq = (.obj 26 [.lst (x.doms.map dmC) .no, .lst (dcsN x.decls) .no, .lst (rlsN x.rules) o]) := St.set_same _ _ _
          have hFZ : Fg ((U.own o 42 4 x.rules.length).set bq (.obj 26 [.lst (x.doms.map dmC) .no, .lst (dcsN x.decls) .no, .lst (rlsN x.rules) o])) t := (Fg.of_set _ (by rw [own_fr]; exact ⟨hoq, hUq⟩)).trans ((Fg.own ho).trans HFU.out)
          generalize (U.own o 42 4 x.rules.length).set bq (.obj 26 [.lst (x.doms.map dmC) .no, .lst (dcsN x.decls) .no, .lst (rlsN x.rules) o]) = Z at *
          have HFZ := Lib.hid hFZ
          clear hFZ ho hoq hop e5 hm hi HFU hUp hUq hUpf
          refine G_loop (fun m env s' => ∃ i : Nat, i ≤ x.decls.length ∧ m + i = x.decls.length ∧ Hid (∀ d, d ∈ x.decls.take i → isDig d.name = false) ∧
            s' = Z ∧ env 1 = .ptr bp 0 ∧ env 3 = .ptr bq 0 ∧ env 10 = .int .i64 i) x.decls.length ?_ ?_
          · exact ⟨_, Fg.refl _, 0, by omega, by omega, Lib.hid (fun d hd => by simp at hd), rfl, by ((try simp (disch := first | assumption | omega) only [go_sem, seval, *]) <;> first | rfl | omega), by ((try simp (disch := first | assumption | omega) only [go_sem, seval, *]) <;> first | rfl | omega), by ((try simp (disch := first | assumption | omega) only [go_sem, seval, *]) <;> first | rfl | omega)⟩
          · clear e1 e3 env m
            rintro m env s' ⟨i, hi, hm, HD, rfl, e1, e3, e10⟩
            by_cases hlt : i < x.decls.length
            · obtain ⟨d, hd⟩ := uget hlt
              have hsx := dclC_at hd
              have HDD := Lib.hid hd
              clear hd
              obtain ⟨dn, dd⟩ := d
              (repeat' (first | (with_reducible first | refine L_seq ?_ | refine L_blk ?_ | refine L_skip ?_ | refine L_endblk ?_ | refine L_ret ?_ | refine L_exit ?_ | refine X_code ?_ | refine X_back ?_ | refine X_blk ?_ | refine X_past (by decide) ?_ | refine L_back ?_) | ((with_reducible refine Kof.use hK ?_); clear hK hE K E) | ((with_reducible refine Eof.use hE ?_); (try clear hK hE K E)) | ((with_reducible refine Kof.use hKh ?_); clear hKh Kh) | ((with_reducible refine Kof.use hKb (P_next ?_)); clear hKb Kb) | (with_reducible refine G_plan 9 [([0, 1, 2, 3, 4, 5, 6, 7, 8, 9, 10, 11, 12, 13, 14, 15, 16], 17, [[]]), ([18], 19, [[], []])] [] hQe fun K E hK hE => ?_) | ((with_reducible refine W_cond (fun h => ?_) (fun h => ?_)) <;> (try (exfalso; first | assumption | omega))) | ((first | (with_reducible first | refine G_region fun K E hK hE => ?_ | refine call_ret can12 (digit12_S _ _) ?_ | refine call_ret can10 (Scheck_S _ (by assumption) _) ?_ | refine call_ret can9 (Sstr_S _ (by assumption) _) ?_ | refine call_ret can13 (SameInts_S _ _ _ _ (by assumption) (by assumption) _) ?_ | refine call_ret can12 (digit12_S _ _) ?_ | refine call_ret can8 (Sawake_S _) ?_ | refine W_if ?_ | refine W_ifS ?_ | refine P_heads fun Kh hKh => ?_ | refine P_fin fun Kh hKh => ?_ | refine P_each fun Kb hKb => ?_ | refine W_and ?_) | ((with_reducible refine call_ex can7 (UFew_S _ (by assumption) _) (fun a h => ?_))) | ((with_reducible refine W_fresh (fun b hb => ?_)); (repeat (obtain ⟨_, hb⟩ := hb))) | ((with_reducible refine W_app (fun o2 ho => ?_)); (try simp (disch := assumption) only [disown_set, disown_own, ownok_o, ownok_m, List.length_map, List.length_cons, List.length_nil, Nat.zero_add, hle, hsx, dclC] at ho); (repeat (obtain ⟨_, ho⟩ := ho))) | ((with_reducible refine W_gd (fun h => ?_) (fun h => ?_)) <;> (try (exfalso; first | assumption | omega)))) <;> (try simp (disch := first | assumption | omega) only [go_sem, seval, hle, hsx, dclC, *]))))
              · (first | refine G_ret hQ (by simp (disch := first | assumption | omega) only [res6, go_sem, seval, *] <;> rfl) ?_ | refine G_norm hQ (by simp (disch := first | assumption | omega) only [res6, go_sem, seval, *] <;> rfl) ?_ | refine G_pan hQ ?_)
                (refine ⟨_, _, Wk.of_eq ?_, ?_, rfl, rfl⟩)
                · rfl
                · exact HFZ.out
              · refine ⟨_, Fg.refl _, m - 1, by omega, i + 1, by omega, by omega, Lib.hid (fun d hd => ?_), rfl, by ((try simp (disch := first | assumption | omega) only [go_sem, seval, *]) <;> first | rfl | omega), by ((try simp (disch := first | assumption | omega) only [go_sem, seval, *]) <;> first | rfl | omega), by ((try simp (disch := first | assumption | omega) only [go_sem, seval, *]) <;> first | rfl | omega)⟩
                rw [utake HDD.out] at hd
                rcases List.mem_append.1 hd with h2 | h2
                · exact HD.out d h2
                · rw [List.mem_singleton] at h2; subst h2; assumption
            · have hD := HD.out
              rw [List.take_of_length_le (by omega)] at hD
              have hPN : PgmN x := ⟨fun d hd => ⟨(HN2.out d hd).1, (HN2.out d hd).2, hD d hd⟩, HN3.out⟩
              have w4 := fun s => Sstr_S (rnP x) (HX.out.rn hPN) s
              have w5 := fun s => Scheck_S (rnP x) (HX.out.rn hPN) s
              rw [soundP_rn hPN] at w4 w5
              have q1 : ((rnP x).decls.map dclC) = dcsN x.decls := by simp [rnP, dcsN]
              have q2 : ((rnP x).rules.map rulC) = rlsN x.rules := by simp [rnP, rlsN]
              simp only [pgC, q1, q2] at w4 w5
              rw [show (rnP x).doms = x.doms from rfl] at w4 w5
              have v4 := fun o1 o2 o3 s => pg_wk (w4 s) o1 o2 o3
              have v5 := fun o1 o2 o3 s => pg_wk (w5 s) o1 o2 o3
              have w6 := fun o1 o2 s => SameInts_S (List.map (fun n : Nat => (n : Int)) (soundP x).2.2) (List.map (fun n : Nat => (n : Int)) (soundP x).2.2) o1 o2 (by rw [List.length_map]; have := sound_len x; omega) (by rw [List.length_map]; have := sound_len x; omega) s
              simp only [decide_true] at w6
              generalize soundP x = Y at *
              clear w4 w5 hD hPN q1 q2 HD
              (repeat' (first | (with_reducible first | refine L_seq ?_ | refine L_blk ?_ | refine L_skip ?_ | refine L_endblk ?_ | refine L_ret ?_ | refine L_exit ?_ | refine X_code ?_ | refine X_back ?_ | refine X_blk ?_ | refine X_past (by decide) ?_ | refine L_back ?_) | ((with_reducible refine Kof.use hK ?_); clear hK hE K E) | ((with_reducible refine Eof.use hE ?_); (try clear hK hE K E)) | ((with_reducible refine Kof.use hKh ?_); clear hKh Kh) | ((with_reducible refine Kof.use hKb (P_next ?_)); clear hKb Kb) | (with_reducible refine G_plan 9 [([0, 1, 2, 3, 4, 5, 6, 7, 8, 9, 10, 11, 12, 13, 14, 15, 16], 17, [[]]), ([18], 19, [[], []])] [] hQe fun K E hK hE => ?_) | ((with_reducible refine W_cond (fun h => ?_) (fun h => ?_)) <;> (try (exfalso; first | assumption | omega))) | ((first | (with_reducible first | refine G_region fun K E hK hE => ?_ | refine call_ret can9 (w2 _) ?_ | refine call_ret can10 (w3 _) ?_ | refine call_ret can9 (v4 _ _ _ _) ?_ | refine call_ret can10 (v5 _ _ _ _) ?_ | refine call_ret can13 (w6 _ _ _) ?_ | refine call_ret can10 (Scheck_S _ (by assumption) _) ?_ | refine call_ret can9 (Sstr_S _ (by assumption) _) ?_ | refine call_ret can13 (SameInts_S _ _ _ _ (by assumption) (by assumption) _) ?_ | refine call_ret can12 (digit12_S _ _) ?_ | refine call_ret can8 (Sawake_S _) ?_ | refine W_if ?_ | refine W_ifS ?_ | refine P_heads fun Kh hKh => ?_ | refine P_fin fun Kh hKh => ?_ | refine P_each fun Kb hKb => ?_ | refine W_and ?_) | ((with_reducible refine call_ex can7 (UFew_S _ (by assumption) _) (fun a h => ?_))) | ((with_reducible refine W_fresh (fun b hb => ?_)); (repeat (obtain ⟨_, hb⟩ := hb))) | ((with_reducible refine W_app (fun o2 ho => ?_)); (try simp (disch := assumption) only [disown_set, disown_own, ownok_o, ownok_m, List.length_map, List.length_cons, List.length_nil, Nat.zero_add, hle] at ho); (repeat (obtain ⟨_, ho⟩ := ho))) | ((with_reducible refine W_gd (fun h => ?_) (fun h => ?_)) <;> (try (exfalso; first | assumption | omega)))) <;> (try simp (disch := first | assumption | omega) only [go_sem, seval, hle, *]))))
              (first | refine G_ret hQ (by simp (disch := first | assumption | omega) only [res6, go_sem, seval, *] <;> rfl) ?_ | refine G_norm hQ (by simp (disch := first | assumption | omega) only [res6, go_sem, seval, *] <;> rfl) ?_ | refine G_pan hQ ?_)
              (refine ⟨_, _, Wk.of_eq ?_, ?_, rfl, rfl⟩)
              · rfl
              · exact HFZ.out
end Go.Proofs.YtdibndmkeipgbaaDoor
