/- What is proved: What package sound's prints, within and read hand back. Conditions: what fits a memory; What package sound's read hands back. Conditions: what fits a memory. Conditions: those that stand in the statements. -/
import Derived.Test.YtdibndmkeipgbaaGreatDoorZYc
import Derived.Test.YtdibndmkeipgbaaGreatDoorZUq
set_option linter.unusedSimpArgs false
set_option linter.unusedVariables false
set_option maxRecDepth 100000
namespace Go.Proofs.YtdibndmkeipgbaaGreatDoor
open Go.RowKit

theorem Sprints_S (x : Pgm) (hx : PgmOk x) (s : St) : SRet Tryz.prog 42 [.agg (pgC x)] s (.bool (pgmB x)) s := by
  have p1 := fun s => UPrint_S x hx s
  have hv : ∃ (t : List UInt8) (e : Int), printU x = .tup [.str t, .int .i64 e] ∧ (pgmB x = true ↔ ¬ e = 1) := by
    unfold printU
    cases hB : pgmB x with
    | false => exact ⟨_, _, rfl, by simp⟩
    | true =>
      rw [if_pos rfl]
      cases lexSigns (pgmT x) with
      | ok L => exact ⟨_, _, rfl, by simp⟩
      | error q => exact ⟨_, _, rfl, by simp⟩
  obtain ⟨t, e, hp, he⟩ := hv
  rw [hp] at p1
  simp only [pgC] at p1 ⊢
  cases hB : pgmB x
  all_goals
    rw [hB] at he
    simp only [true_iff, Bool.false_eq_true, false_iff, Classical.not_not] at he
    generalize x.doms.map dmC = x1 at p1 ⊢
    generalize x.decls.map dclC = x2 at p1 ⊢
    generalize x.rules.map rulC = x3 at p1 ⊢
    clear hp hB
    refine G_enter Tryz.func42 rfl Tryz.ntmps42 rfl fun Q hQ hQe => ?_
    (repeat' (first | refine Ctl ?_ | ((with_reducible refine Kof.use hK ?_); clear hK hE K E) | ((with_reducible refine Eof.use hE ?_); (try clear hK hE K E)) | ((with_reducible refine W_cond (fun h => ?_) (fun h => ?_)) <;> (try (exfalso; first | assumption | omega))) | ((first | (with_reducible first | refine G_region fun K E hK hE => ?_ | refine call_ret can55 (p1 _) ?_ | refine call_ret can55 (UPrint_S _ (by assumption) _) ?_ | refine W_if ?_ | refine W_ifS ?_ | refine W_and ?_) | ((with_reducible refine W_fresh (fun b hb => ?_)); (repeat (obtain ⟨_, hb⟩ := hb)))) <;> (try simp (disch := first | assumption | omega) only [go_sem, seval, *]))))
    all_goals (first | refine W_ret res42 hQ ?_ | refine W_norm res42 hQ ?_ | refine G_pan hQ ?_)
    all_goals (refine ⟨_, _, Wk.of_eq ?_, ?_, rfl, rfl⟩)
    all_goals first | rfl | (exact z_fg)
theorem all_bad {α : Type} {p : α → Bool} {l : List α} {i : Nat} {x : α} (h : l[i]? = some x) (hp : p x = false) : l.all p = false := uall_not h hp
set_option maxHeartbeats 2000000 in
theorem Swithin_S (a : Atm) (o0 : Own) (bm : Nat) (mp : List (List UInt8 × Bool)) (ha : a.ts.length ≤ 140737488355328) (t : St) (hm : t bm = .map (mpV encB mp)) :
    SRet Tryz.prog 32 [.agg [.bool a.not, .str a.rel, .lst (a.ts.map trmC) o0], .mp bm] t (.bool (a.ts.all fun x => !x.var || (lkA x.nm mp).getD false)) t := by
  obtain ⟨an, ar, ts⟩ := a
  simp only at ha ⊢
  generalize hp : (fun x : Trm => !x.var || (lkA x.nm mp).getD false) = P
  have hmf : t bm ≠ .free := by rw [hm]; simp
  refine G_enter Tryz.func32 rfl Tryz.ntmps32 rfl fun Q hQ hQe => ?_
  (repeat' (first | refine Ctl ?_ | ((with_reducible refine Kof.use hK ?_); clear hK hE K E) | ((with_reducible refine Eof.use hE ?_); (try clear hK hE K E)) | ((with_reducible refine W_cond (fun h => ?_) (fun h => ?_)) <;> (try (exfalso; first | assumption | omega))) | ((first | (with_reducible first | refine G_region fun K E hK hE => ?_ | refine W_if ?_ | refine W_ifS ?_ | refine W_and ?_) | ((with_reducible refine W_fresh (fun b hb => ?_)); (repeat (obtain ⟨_, hb⟩ := hb)); (try (obtain ⟨_, _⟩ := nef hb hmf))) | ((with_reducible refine W_gd (fun h => ?_) (fun h => ?_)) <;> (try (exfalso; first | assumption | omega)))) <;> (try simp (disch := first | assumption | omega) only [go_sem, seval, List.length_map, *]))))
  have hb0 : t.set b (.obj 47 [.bool an, .str ar, .lst (ts.map trmC) o0]) b = .obj 47 [.bool an, .str ar, .lst (ts.map trmC) o0] := St.set_same _ _ _
  have hm0 : t.set b (.obj 47 [.bool an, .str ar, .lst (ts.map trmC) o0]) bm = .map (mpV encB mp) := by rw [St.set_other _ _ (by assumption)]; exact hm
  have hF0 : Fg (t.set b (.obj 47 [.bool an, .str ar, .lst (ts.map trmC) o0])) t := Fg.of_set _ hb
  generalize t.set b (.obj 47 [.bool an, .str ar, .lst (ts.map trmC) o0]) = B at *
  have HF := Lib.hid hF0
  have hbf : B b ≠ .free := by rw [hb0]; simp
  have hmf2 : B bm ≠ .free := by rw [hm0]; simp
  clear hF0 hb hm hmf
  refine G_loop (fun m env s' => ∃ i : Nat, i ≤ ts.length ∧ m + i = ts.length ∧ s' = B ∧ (ts.take i).all P = true ∧ env 1 = .mp bm ∧ env 2 = .ptr b 0 ∧ env 8 = .lst (ts.map trmC) o0 ∧ env 9 = .int .i64 ts.length ∧ env 10 = .int .i64 i) ts.length ?_ ?_
  · exact ⟨B, Fg.refl _, 0, by omega, by omega, rfl, rfl, z_sl, z_sl, z_sl, z_sl, z_sl⟩
  · rintro m env s' ⟨i, hi, hm, rfl, hall, e1, e2, e8, e9, e10⟩
    have HH := Lib.hid hall
    clear hall
    by_cases hlt : i < ts.length
    · obtain ⟨c, hc⟩ := uget hlt
      have hsx := trmC_at hc
      have HX := Lib.hid hc
      obtain ⟨cv, cn, cz⟩ := c
      have hpc : P ⟨cv, cn, cz⟩ = (!cv || (lkA cn mp).getD false) := by rw [← hp]
      have HP := Lib.hid hpc
      clear hc hpc hp
      cases cv
      all_goals cases hk : (lkA cn mp).getD false
      all_goals (repeat' (first | refine Ctl ?_ | ((with_reducible refine Kof.use hK ?_); clear hK hE K E) | ((with_reducible refine Eof.use hE ?_); (try clear hK hE K E)) | ((with_reducible refine W_cond (fun h => ?_) (fun h => ?_)) <;> (try (exfalso; first | assumption | omega))) | ((first | (with_reducible first | refine G_region fun K E hK hE => ?_ | refine W_if ?_ | refine W_ifS ?_ | refine W_and ?_) | ((with_reducible refine W_fresh (fun b hb => ?_)); (repeat (obtain ⟨_, hb⟩ := hb)); (try (obtain ⟨_, _⟩ := nef hb hbf; obtain ⟨_, _⟩ := nef hb hmf2))) | ((with_reducible refine W_gd (fun h => ?_) (fun h => ?_)) <;> (try (exfalso; first | assumption | omega)))) <;> (try simp (disch := first | assumption | omega) only [go_sem, seval, List.length_map, hsx, trmC, *]))))
      all_goals first
        | ((first | refine W_ret res32 hQ ?_ | refine W_norm res32 hQ ?_ | refine G_pan hQ ?_)
           (refine ⟨_, _, Wk.of_eq ?_, ?_, rfl, rfl⟩)
           · rw [all_bad HX.out (by rw [HP.out, hk]; rfl)]
           · exact (Fg.of_set _ hb).trans HF.out)
        | exact ⟨s', Fg.of_set _ hb, m - 1, by omega, i + 1, by omega, by omega, rfl, uall_take HH.out HX.out (by rw [HP.out, hk]; rfl), z_sl, z_sl, z_sl, z_sl, z_sl⟩
    · (repeat' (first | refine Ctl ?_ | ((with_reducible refine Kof.use hK ?_); clear hK hE K E) | ((with_reducible refine Eof.use hE ?_); (try clear hK hE K E)) | ((with_reducible refine W_cond (fun h => ?_) (fun h => ?_)) <;> (try (exfalso; first | assumption | omega))) | ((first | (with_reducible first | refine G_region fun K E hK hE => ?_ | refine W_if ?_ | refine W_ifS ?_ | refine W_and ?_) | ((with_reducible refine W_fresh (fun b hb => ?_)); (repeat (obtain ⟨_, hb⟩ := hb))) | ((with_reducible refine W_gd (fun h => ?_) (fun h => ?_)) <;> (try (exfalso; first | assumption | omega)))) <;> (try simp (disch := first | assumption | omega) only [go_sem, seval, List.length_map, *]))))
      all_goals (first | refine W_ret res32 hQ ?_ | refine W_norm res32 hQ ?_ | refine G_pan hQ ?_)
      all_goals (refine ⟨_, _, Wk.of_eq ?_, ?_, rfl, rfl⟩)
      · have := HH.out; rw [show i = ts.length by omega, List.take_length] at this; rw [this]
      · exact HF.out
end Go.Proofs.YtdibndmkeipgbaaGreatDoor
set_option maxRecDepth 100000
namespace Go.Proofs.YtdibndmkeipgbaaGreatDoor
open Go.RowKit

theorem Fg.keep {u s : St} (h : Fg u s) {b : Nat} (hb : s b ≠ .free) : u b = s b := ((h b).resolve_left hb).symm
def PrAt (t : St) (p b1 b2 : Nat) (x : Pgm) : Prop := t p = .obj 101 [.lst (x.doms.map dmC) .no, .lst (x.decls.map dclC) .no, .lst (x.rules.map rulC) .no, .mp b1, .mp b2] ∧ t b1 = .map (mpV encI (szA x.doms)) ∧ t b2 = .map (mpV encI (rlA x.decls))
theorem PrAt.fg {u t : St} {p b1 b2 : Nat} {x : Pgm} (h : PrAt t p b1 b2 x) (hf : Fg u t) : PrAt u p b1 b2 x := by
  obtain ⟨h1, h2, h3⟩ := h
  exact ⟨(hf.keep (by rw [h1]; simp)).trans h1, (hf.keep (by rw [h2]; simp)).trans h2, (hf.keep (by rw [h3]; simp)).trans h3⟩
def putD (ds : List Dm) : List (List UInt8 × Int) := putsA (fun d : Dm => d.name) (fun _ d => d.size) 0 ds []
def putR (cs : List Dcl) : List (List UInt8 × Int) := putsA (fun d : Dcl => d.name) (fun i _ => (i : Int)) 0 cs []
theorem putD_at {ds : List Dm} {i : Nat} {d : Dm} (h : ds[i]? = some d) : putD (ds.take (i + 1)) = ptA d.name d.size (putD (ds.take i)) := by
  unfold putD; rw [utake h, putsA_app]
theorem putR_at {cs : List Dcl} {i : Nat} {d : Dcl} (h : cs[i]? = some d) : putR (cs.take (i + 1)) = ptA d.name (i : Int) (putR (cs.take i)) := by
  unfold putR; rw [utake h, putsA_app, List.length_take, Nat.min_eq_left (Nat.le_of_lt (List.getElem?_eq_some_iff.1 h).1), Nat.zero_add]
theorem putD_len {ds : List Dm} : (putD ds).length = ds.length ↔ (ds.map (·.name)).Nodup := putsA_len ds
theorem putR_len {cs : List Dcl} : (putR cs).length = cs.length ↔ (cs.map (·.name)).Nodup := putsA_len cs
theorem putD_eq {ds : List Dm} (h : (ds.map (·.name)).Nodup) : putD ds = szA ds := by unfold putD szA; rw [putsA_nodup 0 ds [] (by simpa using h), List.nil_append]
theorem putR_eq {cs : List Dcl} (h : (cs.map (·.name)).Nodup) : putR cs = rlA cs := by unfold putR rlA; rw [putsA_nodup 0 cs [] (by simpa using h), List.nil_append]
def szOk (d : Dm) : Bool := !(decide (d.size < 1) || decide (1073741824 < d.size))
theorem szOk_any {ds : List Dm} : ds.any (fun d => decide (d.size < 1) || decide (1073741824 < d.size)) = !(ds.all szOk) := by
  rw [List.not_all_eq_any_not]; congr 1; funext d; simp [szOk]
def kwn (ds : List Dm) (c : Dcl) : Bool := c.doms.all fun s => !decide (domZ ds s = 0)
theorem kwn_any {ds : List Dm} {cs : List Dcl} : cs.any (fun d => d.doms.any fun s => decide (domZ ds s = 0)) = !(cs.all (kwn ds)) := by
  rw [List.not_all_eq_any_not]; congr 1; funext d; simp only [kwn]; rw [List.not_all_eq_any_not]; congr 1; funext s; simp
set_option maxHeartbeats 8000000 in
theorem Sread_S (x : Pgm) (hx : PgmOk x) (s : St) : SCalls Tryz.prog 23 [.agg (pgC x)] s fun w u =>
    (readE x ≠ 0 → w = .ret (.tup [.raw (.pointer none), .int .i64 (readE x)]) ∧ u = s) ∧ (readE x = 0 → ∃ p b1 b2, w = .ret (.tup [.ptr p 0, .int .i64 0]) ∧ PrAt u p b1 b2 x ∧ Fg u s) := by
  have w1 := fun s => Sprints_S x hx s
  obtain ⟨ds, cs, rs⟩ := x
  obtain ⟨hd, hc, hr, hdd, hdc, _⟩ := hx
  simp only at hd hc hr hdd hdc
  cases hB : pgmB ⟨ds, cs, rs⟩ with
  | false =>
    have he : readE ⟨ds, cs, rs⟩ = 1 := by unfold readE; rw [if_pos hB]
    rw [hB] at w1
    simp only [pgC] at w1 ⊢
    rw [he]
    clear he hB
    refine G_enter Tryz.func23 rfl Tryz.ntmps23 rfl fun Q hQ hQe => ?_
    (repeat' (first | refine Ctl ?_ | ((with_reducible refine Kof.use hK ?_); clear hK hE K E) | ((with_reducible refine Eof.use hE ?_); (try clear hK hE K E)) | ((with_reducible refine Kof.use hKh ?_); clear hKh Kh) | ((with_reducible refine Kof.use hKb (P_next ?_)); clear hKb Kb) | (with_reducible first | refine G_plan 9 [([0, 1, 2, 3, 4, 5, 6, 7], 8, [[]])] [] hQe fun K E hK hE => ?_ | refine G_plan 14 [([0, 1, 2, 3, 4, 5, 6], 7, [[]])] [] hQe fun K E hK hE => ?_ | refine G_plan 16 [] [0, 1, 2, 3, 4, 5, 6, 7, 8, 9, 10, 11, 12, 13, 14, 15, 16, 17, 18, 19] hQe fun K E hK hE => ?_) | ((with_reducible refine W_cond (fun h => ?_) (fun h => ?_)) <;> (try (exfalso; first | assumption | omega))) | ((first | (with_reducible first | refine G_region fun K E hK hE => ?_ | refine call_ret can42 (w1 _) ?_ | refine call_ret can42 (Sprints_S _ (by assumption) _) ?_ | refine W_if ?_ | refine W_ifS ?_ | refine P_heads fun Kh hKh => ?_ | refine P_fin fun Kh hKh => ?_ | refine P_each fun Kb hKb => ?_ | refine W_and ?_) | ((with_reducible refine W_fresh (fun b hb => ?_)); (repeat (obtain ⟨_, hb⟩ := hb))) | ((with_reducible refine W_gd (fun h => ?_) (fun h => ?_)) <;> (try (exfalso; first | assumption | omega)))) <;> (try simp (disch := first | assumption | omega) only [go_sem, seval, *]))))
    all_goals (first | refine W_ret res23 hQ ?_ | refine W_norm res23 hQ ?_ | refine G_pan hQ ?_)
    refine ⟨_, _, Wk.refl _, (z_fg : Fg _ s), fun _ => ⟨rfl, rfl⟩, fun h => absurd h (by decide)⟩
  | true =>
    rw [hB] at w1
    have hE : ∀ e : Int, e = readE ⟨ds, cs, rs⟩ → readE ⟨ds, cs, rs⟩ = e := fun _ h => h.symm
    have hread : readE ⟨ds, cs, rs⟩ = if ds.all szOk = false then 1 else if ¬ (ds.map (·.name)).Nodup ∨ ¬ (cs.map (·.name)).Nodup then 120 else if cs.all (kwn ds) = false then 121 else 0 := by
      unfold readE
      simp only [hB, szOk_any, kwn_any, Bool.not_eq_true', Bool.true_eq_false, if_false]
    generalize readE ⟨ds, cs, rs⟩ = RE at hread
    clear hE
    have HRD := Lib.hid hread
    clear hread hB
    simp only [pgC] at w1 ⊢
    refine G_enter Tryz.func23 rfl Tryz.ntmps23 rfl fun Q hQ hQe => ?_
    (repeat' (first | refine Ctl ?_ | ((with_reducible refine Kof.use hK ?_); clear hK hE K E) | ((with_reducible refine Eof.use hE ?_); (try clear hK hE K E)) | ((with_reducible refine Kof.use hKh ?_); clear hKh Kh) | ((with_reducible refine Kof.use hKb (P_next ?_)); clear hKb Kb) | (with_reducible first | refine G_plan 9 [([0, 1, 2, 3, 4, 5, 6, 7], 8, [[]])] [] hQe fun K E hK hE => ?_ | refine G_plan 14 [([0, 1, 2, 3, 4, 5, 6], 7, [[]])] [] hQe fun K E hK hE => ?_ | refine G_plan 16 [] [0, 1, 2, 3, 4, 5, 6, 7, 8, 9, 10, 11, 12, 13, 14, 15, 16, 17, 18, 19] hQe fun K E hK hE => ?_) | ((with_reducible refine W_cond (fun h => ?_) (fun h => ?_)) <;> (try (exfalso; first | assumption | omega))) | ((first | (with_reducible first | refine G_region fun K E hK hE => ?_ | refine call_ret can42 (w1 _) ?_ | refine call_ret can42 (Sprints_S _ (by assumption) _) ?_ | refine W_if ?_ | refine W_ifS ?_ | refine P_heads fun Kh hKh => ?_ | refine P_fin fun Kh hKh => ?_ | refine P_each fun Kb hKb => ?_ | refine W_and ?_) | ((with_reducible refine W_fresh (fun b hb => ?_)); (repeat (obtain ⟨_, hb⟩ := hb))) | ((with_reducible refine W_gd (fun h => ?_) (fun h => ?_)) <;> (try (exfalso; first | assumption | omega)))) <;> (try simp (disch := first | assumption | omega) only [go_sem, seval, *]))))
    rename_i bx hbx b1 n1 n2 hb1 b2 n3 n4 n5 n6 hb2 n7 n8 n9 n10 n11 n12
    obtain ⟨pp, hpp⟩ : ∃ x, x = b := ⟨_, rfl⟩
    subst hpp
    clear w1 h
    have hx0 : ((((s.set bx (.obj 26 [.lst (ds.map dmC) .no, .lst (cs.map dclC) .no, .lst (rs.map rulC) .no])).set b1 (.map [])).set b2 (.map [])).set pp (.obj 101 [.lst (ds.map dmC) .no, .lst (cs.map dclC) .no, .lst (rs.map rulC) .no, .mp b1, .mp b2])) bx = .obj 26 [.lst (ds.map dmC) .no, .lst (cs.map dclC) .no, .lst (rs.map rulC) .no] := by simp (disch := assumption) only [St.set_other, St.set_same, ne_eq]
    have hp0 : ((((s.set bx (.obj 26 [.lst (ds.map dmC) .no, .lst (cs.map dclC) .no, .lst (rs.map rulC) .no])).set b1 (.map [])).set b2 (.map [])).set pp (.obj 101 [.lst (ds.map dmC) .no, .lst (cs.map dclC) .no, .lst (rs.map rulC) .no, .mp b1, .mp b2])) pp = .obj 101 [.lst (ds.map dmC) .no, .lst (cs.map dclC) .no, .lst (rs.map rulC) .no, .mp b1, .mp b2] := St.set_same _ _ _
    have h10 : ((((s.set bx (.obj 26 [.lst (ds.map dmC) .no, .lst (cs.map dclC) .no, .lst (rs.map rulC) .no])).set b1 (.map [])).set b2 (.map [])).set pp (.obj 101 [.lst (ds.map dmC) .no, .lst (cs.map dclC) .no, .lst (rs.map rulC) .no, .mp b1, .mp b2])) b1 = .map (mpV encI []) := by simp (disch := assumption) only [St.set_other, St.set_same, ne_eq]; rfl
    have h20 : ((((s.set bx (.obj 26 [.lst (ds.map dmC) .no, .lst (cs.map dclC) .no, .lst (rs.map rulC) .no])).set b1 (.map [])).set b2 (.map [])).set pp (.obj 101 [.lst (ds.map dmC) .no, .lst (cs.map dclC) .no, .lst (rs.map rulC) .no, .mp b1, .mp b2])) b2 = .map (mpV encI []) := by simp (disch := assumption) only [St.set_other, St.set_same, ne_eq]; rfl
    have hF0 : Fg ((((s.set bx (.obj 26 [.lst (ds.map dmC) .no, .lst (cs.map dclC) .no, .lst (rs.map rulC) .no])).set b1 (.map [])).set b2 (.map [])).set pp (.obj 101 [.lst (ds.map dmC) .no, .lst (cs.map dclC) .no, .lst (rs.map rulC) .no, .mp b1, .mp b2])) s := z_fg
    generalize ((((s.set bx (.obj 26 [.lst (ds.map dmC) .no, .lst (cs.map dclC) .no, .lst (rs.map rulC) .no])).set b1 (.map [])).set b2 (.map [])).set pp (.obj 101 [.lst (ds.map dmC) .no, .lst (cs.map dclC) .no, .lst (rs.map rulC) .no, .mp b1, .mp b2])) = B at *
    have HF := Lib.hid hF0
    have HS1 := Lib.hid hb1
    have HS2 := Lib.hid hb2
    have hxf : B bx ≠ .free := by rw [hx0]; simp
    have hpf : B pp ≠ .free := by rw [hp0]; simp
    have h1f : B b1 ≠ .free := by rw [h10]; simp
    have h2f : B b2 ≠ .free := by rw [h20]; simp
    have hFg1 : ∀ c, Fg (B.set b1 c) s := fun c => Fg.setA HF.out HS1.out
    have HFG1 := Lib.hid hFg1
    clear hF0 hbx hb1 hb2 hb hFg1
    refine G_loop (fun m env t => ∃ (i : Nat) (M : List (List UInt8 × Int)), i ≤ ds.length ∧ m + i = ds.length ∧ M = putD (ds.take i) ∧ (ds.take i).all szOk = true ∧ t = B.set b1 (.map (mpV encI M)) ∧ env 1 = .ptr bx 0 ∧ env 4 = .ptr pp 0 ∧ env 22 = .lst (ds.map dmC) .no ∧ env 23 = .int .i64 ds.length ∧ env 24 = .int .i64 i) ds.length ?_ ?_
    · exact ⟨B.set b1 (.map (mpV encI [])), by rw [St.set_self _ _ _ h10]; exact Fg.refl _, 0, [], by omega, by omega, rfl, rfl, rfl, z_sl, z_sl, z_sl, z_sl, z_sl⟩
    · rintro m env t ⟨i, M, hi, hm, hM, hall, rfl, e1, e4, e22, e23, e24⟩
      have HH := Lib.hid hall
      have HM := Lib.hid hM
      clear hall hM
      by_cases hlt : i < ds.length
      · obtain ⟨c, hcc⟩ := uget hlt
        have hsx := dmC_at hcc
        have HX := Lib.hid hcc
        have hA := putD_at hcc
        rw [← HM.out] at hA
        have HA := Lib.hid hA
        clear hcc hA
        obtain ⟨cn, cz⟩ := c
        by_cases hz1 : cz < 1 ∨ 1073741824 < cz
        · have hbad : szOk ⟨cn, cz⟩ = false := by simp [szOk]; omega
          have hR1 : RE = 1 := by rw [HRD.out, if_pos (all_bad HX.out hbad)]
          have HR1 := Lib.hid hR1
          by_cases hz2 : cz < 1
          all_goals first
            | (have hz3 : 1073741824 < cz := by omega
               skip)
            | skip
          all_goals clear hz1 hbad hR1
          all_goals (repeat' (first | refine Ctl ?_ | ((with_reducible refine Kof.use hK ?_); clear hK hE K E) | ((with_reducible refine Eof.use hE ?_); (try clear hK hE K E)) | ((with_reducible refine Kof.use hKh ?_); clear hKh Kh) | ((with_reducible refine Kof.use hKb (P_next ?_)); clear hKb Kb) | (with_reducible first | refine G_plan 9 [([0, 1, 2, 3, 4, 5, 6, 7], 8, [[]])] [] hQe fun K E hK hE => ?_ | refine G_plan 14 [([0, 1, 2, 3, 4, 5, 6], 7, [[]])] [] hQe fun K E hK hE => ?_ | refine G_plan 16 [] [0, 1, 2, 3, 4, 5, 6, 7, 8, 9, 10, 11, 12, 13, 14, 15, 16, 17, 18, 19] hQe fun K E hK hE => ?_) | ((with_reducible refine W_cond (fun h => ?_) (fun h => ?_)) <;> (try (exfalso; first | assumption | omega))) | ((first | (with_reducible first | refine G_region fun K E hK hE => ?_ | refine call_ret can42 (Sprints_S _ (by assumption) _) ?_ | refine W_if ?_ | refine W_ifS ?_ | refine P_heads fun Kh hKh => ?_ | refine P_fin fun Kh hKh => ?_ | refine P_each fun Kb hKb => ?_ | refine W_and ?_) | ((with_reducible refine W_fresh (fun b hb => ?_)); (repeat (obtain ⟨_, hb⟩ := hb)); (try (obtain ⟨_, _⟩ := nef hb hxf; obtain ⟨_, _⟩ := nef hb hpf; obtain ⟨_, _⟩ := nef hb h1f; obtain ⟨_, _⟩ := nef hb h2f))) | ((with_reducible refine W_gd (fun h => ?_) (fun h => ?_)) <;> (try (exfalso; first | assumption | omega)))) <;> (try simp (disch := first | assumption | omega) only [go_sem, seval, List.length_map, hsx, dmC, *]))))
          all_goals (first | refine W_ret res23 hQ ?_ | refine W_norm res23 hQ ?_ | refine G_pan hQ ?_)
          all_goals exact ⟨_, s, Wk.refl _, Fg.trans (Fg.of_set _ (by rw [St.set_other _ _ (by assumption)]; assumption)) (HFG1.out _), fun _ => ⟨by rw [HR1.out], rfl⟩, fun h => absurd h (by rw [HR1.out]; decide)⟩
        · have hz2 : ¬ cz < 1 := by omega
          have hz3 : ¬ 1073741824 < cz := by omega
          have hgood : szOk ⟨cn, cz⟩ = true := by simp [szOk]; omega
          have HG := Lib.hid hgood
          clear hz1 hgood
          (repeat' (first | refine Ctl ?_ | ((with_reducible refine Kof.use hK ?_); clear hK hE K E) | ((with_reducible refine Eof.use hE ?_); (try clear hK hE K E)) | ((with_reducible refine Kof.use hKh ?_); clear hKh Kh) | ((with_reducible refine Kof.use hKb (P_next ?_)); clear hKb Kb) | (with_reducible first | refine G_plan 9 [([0, 1, 2, 3, 4, 5, 6, 7], 8, [[]])] [] hQe fun K E hK hE => ?_ | refine G_plan 14 [([0, 1, 2, 3, 4, 5, 6], 7, [[]])] [] hQe fun K E hK hE => ?_ | refine G_plan 16 [] [0, 1, 2, 3, 4, 5, 6, 7, 8, 9, 10, 11, 12, 13, 14, 15, 16, 17, 18, 19] hQe fun K E hK hE => ?_) | ((with_reducible refine W_cond (fun h => ?_) (fun h => ?_)) <;> (try (exfalso; first | assumption | omega))) | ((first | (with_reducible first | refine G_region fun K E hK hE => ?_ | refine call_ret can42 (Sprints_S _ (by assumption) _) ?_ | refine W_if ?_ | refine W_ifS ?_ | refine P_heads fun Kh hKh => ?_ | refine P_fin fun Kh hKh => ?_ | refine P_each fun Kb hKb => ?_ | refine W_and ?_) | ((with_reducible refine W_fresh (fun b hb => ?_)); (repeat (obtain ⟨_, hb⟩ := hb)); (try (obtain ⟨_, _⟩ := nef hb hxf; obtain ⟨_, _⟩ := nef hb hpf; obtain ⟨_, _⟩ := nef hb h1f; obtain ⟨_, _⟩ := nef hb h2f))) | ((with_reducible refine W_gd (fun h => ?_) (fun h => ?_)) <;> (try (exfalso; first | assumption | omega)))) <;> (try simp (disch := first | assumption | omega) only [go_sem, seval, List.length_map, hsx, dmC, *]))))
          exact ⟨B.set b1 (.map (mpV encI (ptA cn cz M))), Fg.of_set _ (by rw [St.set_other _ _ (by assumption)]; exact hb), m - 1, by omega, i + 1, _, by omega, by omega, HA.out.symm, uall_take HH.out HX.out HG.out, rfl, z_sl, z_sl, z_sl, z_sl, z_sl⟩
      · have hiL : i = ds.length := by omega
        have hMd : M = putD ds := by rw [HM.out, hiL, List.take_length]
        have hallD : ds.all szOk = true := by have := HH.out; rwa [hiL, List.take_length] at this
        have HMD := Lib.hid hMd
        have HAD := Lib.hid hallD
        have hx1 : (B.set b1 (.map (mpV encI M))) bx = .obj 26 [.lst (ds.map dmC) .no, .lst (cs.map dclC) .no, .lst (rs.map rulC) .no] := by rw [St.set_other _ _ (by assumption)]; exact hx0
        have hp1 : (B.set b1 (.map (mpV encI M))) pp = .obj 101 [.lst (ds.map dmC) .no, .lst (cs.map dclC) .no, .lst (rs.map rulC) .no, .mp b1, .mp b2] := by rw [St.set_other _ _ (by assumption)]; exact hp0
        have h11 : (B.set b1 (.map (mpV encI M))) b1 = .map (mpV encI M) := St.set_same _ _ _
        have h21 : (B.set b1 (.map (mpV encI M))) b2 = .map (mpV encI []) := by rw [St.set_other _ _ (by assumption)]; exact h20
        have hF1 : Fg (B.set b1 (.map (mpV encI M))) s := HFG1.out _
        clear hMd hallD HM HH hiL HF HFG1
        generalize B.set b1 (.map (mpV encI M)) = B1 at *
        clear hx0 hp0 h10 h20 hxf hpf h1f h2f
        have hxf : B1 bx ≠ .free := by rw [hx1]; simp
        have hpf : B1 pp ≠ .free := by rw [hp1]; simp
        have h1f : B1 b1 ≠ .free := by rw [h11]; simp
        have h2f : B1 b2 ≠ .free := by rw [h21]; simp
        have hFg2 : ∀ c, Fg (B1.set b2 c) s := fun c => Fg.setA hF1 HS2.out
        have HFG2 := Lib.hid hFg2
        clear hFg2 hF1
        (repeat' (first | refine Ctl ?_ | ((with_reducible refine Kof.use hK ?_); clear hK hE K E) | ((with_reducible refine Eof.use hE ?_); (try clear hK hE K E)) | ((with_reducible refine Kof.use hKh ?_); clear hKh Kh) | ((with_reducible refine Kof.use hKb (P_next ?_)); clear hKb Kb) | (with_reducible first | refine G_plan 9 [([0, 1, 2, 3, 4, 5, 6, 7], 8, [[]])] [] hQe fun K E hK hE => ?_ | refine G_plan 14 [([0, 1, 2, 3, 4, 5, 6], 7, [[]])] [] hQe fun K E hK hE => ?_ | refine G_plan 16 [] [0, 1, 2, 3, 4, 5, 6, 7, 8, 9, 10, 11, 12, 13, 14, 15, 16, 17, 18, 19] hQe fun K E hK hE => ?_) | ((with_reducible refine W_cond (fun h => ?_) (fun h => ?_)) <;> (try (exfalso; first | assumption | omega))) | ((first | (with_reducible first | refine G_region fun K E hK hE => ?_ | refine call_ret can42 (Sprints_S _ (by assumption) _) ?_ | refine W_if ?_ | refine W_ifS ?_ | refine P_heads fun Kh hKh => ?_ | refine P_fin fun Kh hKh => ?_ | refine P_each fun Kb hKb => ?_ | refine W_and ?_) | ((with_reducible refine W_fresh (fun b hb => ?_)); (repeat (obtain ⟨_, hb⟩ := hb))) | ((with_reducible refine W_gd (fun h => ?_) (fun h => ?_)) <;> (try (exfalso; first | assumption | omega)))) <;> (try simp (disch := first | assumption | omega) only [go_sem, seval, List.length_map, *]))))
        clear e22 e23 e24 hi hm hlt h
        refine G_loop (fun m env t => ∃ (i : Nat) (N : List (List UInt8 × Int)), i ≤ cs.length ∧ m + i = cs.length ∧ N = putR (cs.take i) ∧ t = B1.set b2 (.map (mpV encI N)) ∧ env 1 = .ptr bx 0 ∧ env 4 = .ptr pp 0 ∧ env 46 = .lst (cs.map dclC) .no ∧ env 47 = .int .i64 cs.length ∧ env 48 = .int .i64 i) cs.length ?_ ?_
        · exact ⟨B1.set b2 (.map (mpV encI [])), by rw [St.set_self _ _ _ h21]; exact Fg.refl _, 0, [], by omega, by omega, rfl, rfl, z_sl, z_sl, z_sl, z_sl, z_sl⟩
        · clear e1 e4 env i m
          rintro m env t ⟨i, N, hi, hm, hN, rfl, e1, e4, e46, e47, e48⟩
          have HN := Lib.hid hN
          clear hN
          by_cases hlt : i < cs.length
          · obtain ⟨c, hcc⟩ := uget hlt
            have hsx := dclC_at hcc
            have hA := putR_at hcc
            rw [← HN.out] at hA
            have HA := Lib.hid hA
            clear hcc hA
            obtain ⟨cn, cd⟩ := c
            (repeat' (first | refine Ctl ?_ | ((with_reducible refine Kof.use hK ?_); clear hK hE K E) | ((with_reducible refine Eof.use hE ?_); (try clear hK hE K E)) | ((with_reducible refine Kof.use hKh ?_); clear hKh Kh) | ((with_reducible refine Kof.use hKb (P_next ?_)); clear hKb Kb) | (with_reducible first | refine G_plan 9 [([0, 1, 2, 3, 4, 5, 6, 7], 8, [[]])] [] hQe fun K E hK hE => ?_ | refine G_plan 14 [([0, 1, 2, 3, 4, 5, 6], 7, [[]])] [] hQe fun K E hK hE => ?_ | refine G_plan 16 [] [0, 1, 2, 3, 4, 5, 6, 7, 8, 9, 10, 11, 12, 13, 14, 15, 16, 17, 18, 19] hQe fun K E hK hE => ?_) | ((with_reducible refine W_cond (fun h => ?_) (fun h => ?_)) <;> (try (exfalso; first | assumption | omega))) | ((first | (with_reducible first | refine G_region fun K E hK hE => ?_ | refine call_ret can42 (Sprints_S _ (by assumption) _) ?_ | refine W_if ?_ | refine W_ifS ?_ | refine P_heads fun Kh hKh => ?_ | refine P_fin fun Kh hKh => ?_ | refine P_each fun Kb hKb => ?_ | refine W_and ?_) | ((with_reducible refine W_fresh (fun b hb => ?_)); (repeat (obtain ⟨_, hb⟩ := hb)); (try (obtain ⟨_, _⟩ := nef hb hxf; obtain ⟨_, _⟩ := nef hb hpf; obtain ⟨_, _⟩ := nef hb h1f; obtain ⟨_, _⟩ := nef hb h2f))) | ((with_reducible refine W_gd (fun h => ?_) (fun h => ?_)) <;> (try (exfalso; first | assumption | omega)))) <;> (try simp (disch := first | assumption | omega) only [go_sem, seval, List.length_map, hsx, dclC, *]))))
            exact ⟨B1.set b2 (.map (mpV encI (ptA cn (i : Int) N))), Fg.of_set _ (by rw [St.set_other _ _ (by assumption)]; exact hb), m - 1, by omega, i + 1, _, by omega, by omega, HA.out.symm, rfl, z_sl, z_sl, z_sl, z_sl, z_sl⟩
          · have hiL : i = cs.length := by omega
            have hNd : N = putR cs := by rw [HN.out, hiL, List.take_length]
            have HND := Lib.hid hNd
            have hx2 : (B1.set b2 (.map (mpV encI N))) bx = .obj 26 [.lst (ds.map dmC) .no, .lst (cs.map dclC) .no, .lst (rs.map rulC) .no] := by rw [St.set_other _ _ (by assumption)]; exact hx1
            have hp2 : (B1.set b2 (.map (mpV encI N))) pp = .obj 101 [.lst (ds.map dmC) .no, .lst (cs.map dclC) .no, .lst (rs.map rulC) .no, .mp b1, .mp b2] := by rw [St.set_other _ _ (by assumption)]; exact hp1
            have h12 : (B1.set b2 (.map (mpV encI N))) b1 = .map (mpV encI M) := by rw [St.set_other _ _ (by assumption)]; exact h11
            have h22 : (B1.set b2 (.map (mpV encI N))) b2 = .map (mpV encI N) := St.set_same _ _ _
            have hF2 : Fg (B1.set b2 (.map (mpV encI N))) s := HFG2.out _
            have hlD : ¬ (ds.map (·.name)).Nodup ↔ ¬ M.length = ds.length := by rw [HMD.out, putD_len]
            have hlR : ¬ (cs.map (·.name)).Nodup ↔ ¬ N.length = cs.length := by rw [HND.out, putR_len]
            have HLD := Lib.hid hlD
            have HLR := Lib.hid hlR
            clear hNd HN hiL HFG2 hlD hlR
            generalize B1.set b2 (.map (mpV encI N)) = B2 at *
            clear hx1 hp1 h11 h21 hxf hpf h1f h2f
            have hxf : B2 bx ≠ .free := by rw [hx2]; simp
            have hpf : B2 pp ≠ .free := by rw [hp2]; simp
            have h1f : B2 b1 ≠ .free := by rw [h12]; simp
            have h2f : B2 b2 ≠ .free := by rw [h22]; simp
            have HF2 := Lib.hid hF2
            clear hF2
            by_cases hl1 : M.length = ds.length
            · have hl1i : ((M.length : Int) = (ds.length : Int)) = True := eq_true (by omega)
              by_cases hl2 : N.length = cs.length
              · have hl2i : ((N.length : Int) = (cs.length : Int)) = True := eq_true (by omega)
                have hnd : (ds.map (·.name)).Nodup := Classical.byContradiction fun h => (HLD.out.1 h) hl1
                have hnr : (cs.map (·.name)).Nodup := Classical.byContradiction fun h => (HLR.out.1 h) hl2
                have hMs : M = szA ds := by rw [HMD.out, putD_eq hnd]
                have hNs : N = rlA cs := by rw [HND.out, putR_eq hnr]
                subst hMs
                subst hNs
                have hR2 : RE = if cs.all (kwn ds) = false then 121 else 0 := by
                  rw [HRD.out, if_neg (by rw [HAD.out]; simp), if_neg (by rintro (h | h); exact h hnd; exact h hnr)]
                have HR2 := Lib.hid hR2
                clear hnd hnr hR2 hl1 hl2
                (repeat' (first | refine Ctl ?_ | ((with_reducible refine Kof.use hK ?_); clear hK hE K E) | ((with_reducible refine Eof.use hE ?_); (try clear hK hE K E)) | ((with_reducible refine Kof.use hKh ?_); clear hKh Kh) | ((with_reducible refine Kof.use hKb (P_next ?_)); clear hKb Kb) | (with_reducible first | refine G_plan 9 [([0, 1, 2, 3, 4, 5, 6, 7], 8, [[]])] [] hQe fun K E hK hE => ?_ | refine G_plan 14 [([0, 1, 2, 3, 4, 5, 6], 7, [[]])] [] hQe fun K E hK hE => ?_ | refine G_plan 16 [] [0, 1, 2, 3, 4, 5, 6, 7, 8, 9, 10, 11, 12, 13, 14, 15, 16, 17, 18, 19] hQe fun K E hK hE => ?_) | ((with_reducible refine W_cond (fun h => ?_) (fun h => ?_)) <;> (try (exfalso; first | assumption | omega))) | ((first | (with_reducible first | refine G_region fun K E hK hE => ?_ | refine call_ret can42 (Sprints_S _ (by assumption) _) ?_ | refine W_if ?_ | refine W_ifS ?_ | refine P_heads fun Kh hKh => ?_ | refine P_fin fun Kh hKh => ?_ | refine P_each fun Kb hKb => ?_ | refine W_and ?_) | ((with_reducible refine W_fresh (fun b hb => ?_)); (repeat (obtain ⟨_, hb⟩ := hb))) | ((with_reducible refine W_gd (fun h => ?_) (fun h => ?_)) <;> (try (exfalso; first | assumption | omega)))) <;> (try simp (disch := first | assumption | omega) only [go_sem, seval, List.length_map, *]))))
                refine G_loop (fun m env t => ∃ (i : Nat), i ≤ cs.length ∧ m + i = cs.length ∧ (cs.take i).all (kwn ds) = true ∧ t = B2 ∧ env 1 = .ptr bx 0 ∧ env 4 = .ptr pp 0 ∧ env 82 = .lst (cs.map dclC) .no ∧ env 83 = .int .i64 cs.length ∧ env 84 = .int .i64 i) cs.length ?_ ?_
                · exact ⟨B2, Fg.refl _, 0, by omega, by omega, rfl, rfl, z_sl, z_sl, z_sl, z_sl, z_sl⟩
                · clear e1 e4 e46 e47 e48 hlt hm hi env i m h
                  rintro m env t ⟨i, hi, hm, hall, rfl, e1, e4, e82, e83, e84⟩
                  have HH := Lib.hid hall
                  clear hall
                  by_cases hlt : i < cs.length
                  · obtain ⟨c, hcc⟩ := uget hlt
                    have hsx := dclC_at hcc
                    have HX := Lib.hid hcc
                    have hcl := (hdc c (List.mem_of_getElem? hcc)).2.1
                    clear hcc
                    obtain ⟨cn, cd⟩ := c
                    simp only at hcl
                    have hsl : (strs cd).length = cd.length := by simp [strs]
                    (repeat' (first | refine Ctl ?_ | ((with_reducible refine Kof.use hK ?_); clear hK hE K E) | ((with_reducible refine Eof.use hE ?_); (try clear hK hE K E)) | ((with_reducible refine Kof.use hKh ?_); clear hKh Kh) | ((with_reducible refine Kof.use hKb (P_next ?_)); clear hKb Kb) | (with_reducible first | refine G_plan 9 [([0, 1, 2, 3, 4, 5, 6, 7], 8, [[]])] [] hQe fun K E hK hE => ?_ | refine G_plan 14 [([0, 1, 2, 3, 4, 5, 6], 7, [[]])] [] hQe fun K E hK hE => ?_ | refine G_plan 16 [] [0, 1, 2, 3, 4, 5, 6, 7, 8, 9, 10, 11, 12, 13, 14, 15, 16, 17, 18, 19] hQe fun K E hK hE => ?_) | ((with_reducible refine W_cond (fun h => ?_) (fun h => ?_)) <;> (try (exfalso; first | assumption | omega))) | ((first | (with_reducible first | refine G_region fun K E hK hE => ?_ | refine call_ret can42 (Sprints_S _ (by assumption) _) ?_ | refine W_if ?_ | refine W_ifS ?_ | refine P_heads fun Kh hKh => ?_ | refine P_fin fun Kh hKh => ?_ | refine P_each fun Kb hKb => ?_ | refine W_and ?_) | ((with_reducible refine W_fresh (fun b hb => ?_)); (repeat (obtain ⟨_, hb⟩ := hb)); (try (obtain ⟨_, _⟩ := nef hb hxf; obtain ⟨_, _⟩ := nef hb hpf; obtain ⟨_, _⟩ := nef hb h1f; obtain ⟨_, _⟩ := nef hb h2f))) | ((with_reducible refine W_gd (fun h => ?_) (fun h => ?_)) <;> (try (exfalso; first | assumption | omega)))) <;> (try simp (disch := first | assumption | omega) only [go_sem, seval, List.length_map, hsx, dclC, hsl, *]))))
                    refine G_loop (fun m2 env t' => ∃ (j : Nat), j ≤ cd.length ∧ m2 + j = cd.length ∧ (cd.take j).all (fun s => !decide (domZ ds s = 0)) = true ∧ t' = t ∧ env 1 = .ptr bx 0 ∧ env 4 = .ptr pp 0 ∧ env 82 = .lst (cs.map dclC) .no ∧ env 83 = .int .i64 cs.length ∧ env 84 = .int .i64 i ∧ env 89 = .lst (strs cd) .no ∧ env 90 = .int .i64 cd.length ∧ env 91 = .int .i64 j) cd.length ?_ ?_
                    · exact ⟨t, Fg.of_set _ hb, 0, by omega, by omega, rfl, rfl, z_sl, z_sl, z_sl, z_sl, z_sl, z_sl, z_sl, z_sl⟩
                    · clear e1 e4 e82 e83 e84 env hb h
                      rintro m2 env t' ⟨j, hj, hm2, hall2, rfl, e1, e4, e82, e83, e84, e89, e90, e91⟩
                      have HH2 := Lib.hid hall2
                      clear hall2
                      by_cases hlt2 : j < cd.length
                      · obtain ⟨u, hu⟩ := uget hlt2
                        have hsu := strs_at hu
                        have HU := Lib.hid hu
                        have hlk := szA_lk (ds := ds) u
                        clear hu
                        cases hz : decide (domZ ds u = 0)
                        · have hz2 : ¬ domZ ds u = 0 := by simpa using hz
                          have HZ := Lib.hid hz
                          clear hz
                          (repeat' (first | refine Ctl ?_ | ((with_reducible refine Kof.use hK ?_); clear hK hE K E) | ((with_reducible refine Eof.use hE ?_); (try clear hK hE K E)) | ((with_reducible refine Kof.use hKh ?_); clear hKh Kh) | ((with_reducible refine Kof.use hKb (P_next ?_)); clear hKb Kb) | (with_reducible first | refine G_plan 9 [([0, 1, 2, 3, 4, 5, 6, 7], 8, [[]])] [] hQe fun K E hK hE => ?_ | refine G_plan 14 [([0, 1, 2, 3, 4, 5, 6], 7, [[]])] [] hQe fun K E hK hE => ?_ | refine G_plan 16 [] [0, 1, 2, 3, 4, 5, 6, 7, 8, 9, 10, 11, 12, 13, 14, 15, 16, 17, 18, 19] hQe fun K E hK hE => ?_) | ((with_reducible refine W_cond (fun h => ?_) (fun h => ?_)) <;> (try (exfalso; first | assumption | omega))) | ((first | (with_reducible first | refine G_region fun K E hK hE => ?_ | refine call_ret can42 (Sprints_S _ (by assumption) _) ?_ | refine W_if ?_ | refine W_ifS ?_ | refine P_heads fun Kh hKh => ?_ | refine P_fin fun Kh hKh => ?_ | refine P_each fun Kb hKb => ?_ | refine W_and ?_) | ((with_reducible refine W_fresh (fun b hb => ?_)); (repeat (obtain ⟨_, hb⟩ := hb))) | ((with_reducible refine W_gd (fun h => ?_) (fun h => ?_)) <;> (try (exfalso; first | assumption | omega)))) <;> (try simp (disch := first | assumption | omega) only [go_sem, seval, List.length_map, hsu, hsl, hlk, *]))))
                          exact ⟨t', Fg.refl _, m2 - 1, by omega, j + 1, by omega, by omega, uall_take HH2.out HU.out (by rw [HZ.out]; rfl), rfl, z_sl, z_sl, z_sl, z_sl, z_sl, z_sl, z_sl, z_sl⟩
                        · have hz2 : (domZ ds u = 0) = True := eq_true (by simpa using hz)
                          have HZ := Lib.hid hz
                          clear hz
                          (repeat' (first | refine Ctl ?_ | ((with_reducible refine Kof.use hK ?_); clear hK hE K E) | ((with_reducible refine Eof.use hE ?_); (try clear hK hE K E)) | ((with_reducible refine Kof.use hKh ?_); clear hKh Kh) | ((with_reducible refine Kof.use hKb (P_next ?_)); clear hKb Kb) | (with_reducible first | refine G_plan 9 [([0, 1, 2, 3, 4, 5, 6, 7], 8, [[]])] [] hQe fun K E hK hE => ?_ | refine G_plan 14 [([0, 1, 2, 3, 4, 5, 6], 7, [[]])] [] hQe fun K E hK hE => ?_ | refine G_plan 16 [] [0, 1, 2, 3, 4, 5, 6, 7, 8, 9, 10, 11, 12, 13, 14, 15, 16, 17, 18, 19] hQe fun K E hK hE => ?_) | ((with_reducible refine W_cond (fun h => ?_) (fun h => ?_)) <;> (try (exfalso; first | assumption | omega))) | ((first | (with_reducible first | refine G_region fun K E hK hE => ?_ | refine call_ret can42 (Sprints_S _ (by assumption) _) ?_ | refine W_if ?_ | refine W_ifS ?_ | refine P_heads fun Kh hKh => ?_ | refine P_fin fun Kh hKh => ?_ | refine P_each fun Kb hKb => ?_ | refine W_and ?_) | ((with_reducible refine W_fresh (fun b hb => ?_)); (repeat (obtain ⟨_, hb⟩ := hb))) | ((with_reducible refine W_gd (fun h => ?_) (fun h => ?_)) <;> (try (exfalso; first | assumption | omega)))) <;> (try simp (disch := first | assumption | omega) only [go_sem, seval, List.length_map, hsu, hsl, hlk, *]))))
                          have hR3 : RE = 121 := by
                            rw [HR2.out, if_pos]
                            exact all_bad HX.out (by unfold kwn; exact all_bad HU.out (by rw [HZ.out]; rfl))
                          (first | refine W_ret res23 hQ ?_ | refine W_norm res23 hQ ?_ | refine G_pan hQ ?_)
                          exact ⟨_, s, Wk.refl _, HF2.out, fun _ => ⟨by rw [hR3], rfl⟩, fun h => absurd h (by rw [hR3]; decide)⟩
                      · have hjL : j = cd.length := by omega
                        have hk : kwn ds ⟨cn, cd⟩ = true := by unfold kwn; have := HH2.out; rwa [hjL, List.take_length] at this
                        have HK := Lib.hid hk
                        clear hk
                        (repeat' (first | refine Ctl ?_ | ((with_reducible refine Kof.use hK ?_); clear hK hE K E) | ((with_reducible refine Eof.use hE ?_); (try clear hK hE K E)) | ((with_reducible refine Kof.use hKh ?_); clear hKh Kh) | ((with_reducible refine Kof.use hKb (P_next ?_)); clear hKb Kb) | (with_reducible first | refine G_plan 9 [([0, 1, 2, 3, 4, 5, 6, 7], 8, [[]])] [] hQe fun K E hK hE => ?_ | refine G_plan 14 [([0, 1, 2, 3, 4, 5, 6], 7, [[]])] [] hQe fun K E hK hE => ?_ | refine G_plan 16 [] [0, 1, 2, 3, 4, 5, 6, 7, 8, 9, 10, 11, 12, 13, 14, 15, 16, 17, 18, 19] hQe fun K E hK hE => ?_) | ((with_reducible refine W_cond (fun h => ?_) (fun h => ?_)) <;> (try (exfalso; first | assumption | omega))) | ((first | (with_reducible first | refine G_region fun K E hK hE => ?_ | refine call_ret can42 (Sprints_S _ (by assumption) _) ?_ | refine W_if ?_ | refine W_ifS ?_ | refine P_heads fun Kh hKh => ?_ | refine P_fin fun Kh hKh => ?_ | refine P_each fun Kb hKb => ?_ | refine W_and ?_) | ((with_reducible refine W_fresh (fun b hb => ?_)); (repeat (obtain ⟨_, hb⟩ := hb))) | ((with_reducible refine W_gd (fun h => ?_) (fun h => ?_)) <;> (try (exfalso; first | assumption | omega)))) <;> (try simp (disch := first | assumption | omega) only [go_sem, seval, List.length_map, hsl, *]))))
                        exact ⟨t', Fg.refl _, m - 1, by omega, i + 1, by omega, by omega, uall_take HH.out HX.out HK.out, rfl, z_sl, z_sl, z_sl, z_sl, z_sl⟩
                  · have hiL : i = cs.length := by omega
                    have hk : cs.all (kwn ds) = true := by have := HH.out; rwa [hiL, List.take_length] at this
                    have hR3 : RE = 0 := by rw [HR2.out, if_neg (by rw [hk]; simp)]
                    have HR3 := Lib.hid hR3
                    clear hk hR3
                    (repeat' (first | refine Ctl ?_ | ((with_reducible refine Kof.use hK ?_); clear hK hE K E) | ((with_reducible refine Eof.use hE ?_); (try clear hK hE K E)) | ((with_reducible refine Kof.use hKh ?_); clear hKh Kh) | ((with_reducible refine Kof.use hKb (P_next ?_)); clear hKb Kb) | (with_reducible first | refine G_plan 9 [([0, 1, 2, 3, 4, 5, 6, 7], 8, [[]])] [] hQe fun K E hK hE => ?_ | refine G_plan 14 [([0, 1, 2, 3, 4, 5, 6], 7, [[]])] [] hQe fun K E hK hE => ?_ | refine G_plan 16 [] [0, 1, 2, 3, 4, 5, 6, 7, 8, 9, 10, 11, 12, 13, 14, 15, 16, 17, 18, 19] hQe fun K E hK hE => ?_) | ((with_reducible refine W_cond (fun h => ?_) (fun h => ?_)) <;> (try (exfalso; first | assumption | omega))) | ((first | (with_reducible first | refine G_region fun K E hK hE => ?_ | refine call_ret can42 (Sprints_S _ (by assumption) _) ?_ | refine W_if ?_ | refine W_ifS ?_ | refine P_heads fun Kh hKh => ?_ | refine P_fin fun Kh hKh => ?_ | refine P_each fun Kb hKb => ?_ | refine W_and ?_) | ((with_reducible refine W_fresh (fun b hb => ?_)); (repeat (obtain ⟨_, hb⟩ := hb))) | ((with_reducible refine W_gd (fun h => ?_) (fun h => ?_)) <;> (try (exfalso; first | assumption | omega)))) <;> (try simp (disch := first | assumption | omega) only [go_sem, seval, List.length_map, *]))))
                    all_goals (first | refine W_ret res23 hQ ?_ | refine W_norm res23 hQ ?_ | refine G_pan hQ ?_)
                    exact ⟨_, t, Wk.refl _, Fg.refl _, fun h => absurd HR3.out h, fun _ => ⟨pp, b1, b2, rfl, ⟨hp2, h12, h22⟩, HF2.out⟩⟩
              · have hl2i : ¬ ((N.length : Int) = (cs.length : Int)) := by omega
                have hR2 : RE = 120 := by
                  rw [HRD.out, if_neg (by rw [HAD.out]; simp), if_pos (.inr (HLR.out.2 hl2))]
                have HR2 := Lib.hid hR2
                clear hR2 hl1 hl2
                (repeat' (first | refine Ctl ?_ | ((with_reducible refine Kof.use hK ?_); clear hK hE K E) | ((with_reducible refine Eof.use hE ?_); (try clear hK hE K E)) | ((with_reducible refine Kof.use hKh ?_); clear hKh Kh) | ((with_reducible refine Kof.use hKb (P_next ?_)); clear hKb Kb) | (with_reducible first | refine G_plan 9 [([0, 1, 2, 3, 4, 5, 6, 7], 8, [[]])] [] hQe fun K E hK hE => ?_ | refine G_plan 14 [([0, 1, 2, 3, 4, 5, 6], 7, [[]])] [] hQe fun K E hK hE => ?_ | refine G_plan 16 [] [0, 1, 2, 3, 4, 5, 6, 7, 8, 9, 10, 11, 12, 13, 14, 15, 16, 17, 18, 19] hQe fun K E hK hE => ?_) | ((with_reducible refine W_cond (fun h => ?_) (fun h => ?_)) <;> (try (exfalso; first | assumption | omega))) | ((first | (with_reducible first | refine G_region fun K E hK hE => ?_ | refine call_ret can42 (Sprints_S _ (by assumption) _) ?_ | refine W_if ?_ | refine W_ifS ?_ | refine P_heads fun Kh hKh => ?_ | refine P_fin fun Kh hKh => ?_ | refine P_each fun Kb hKb => ?_ | refine W_and ?_) | ((with_reducible refine W_fresh (fun b hb => ?_)); (repeat (obtain ⟨_, hb⟩ := hb))) | ((with_reducible refine W_gd (fun h => ?_) (fun h => ?_)) <;> (try (exfalso; first | assumption | omega)))) <;> (try simp (disch := first | assumption | omega) only [go_sem, seval, List.length_map, *]))))
                all_goals (first | refine W_ret res23 hQ ?_ | refine W_norm res23 hQ ?_ | refine G_pan hQ ?_)
                exact ⟨_, s, Wk.refl _, HF2.out, fun _ => ⟨by rw [HR2.out], rfl⟩, fun h => absurd h (by rw [HR2.out]; decide)⟩
            · have hl1i : ¬ ((M.length : Int) = (ds.length : Int)) := by omega
              have hR2 : RE = 120 := by
                rw [HRD.out, if_neg (by rw [HAD.out]; simp), if_pos (.inl (HLD.out.2 hl1))]
              have HR2 := Lib.hid hR2
              clear hR2 hl1
              (repeat' (first | refine Ctl ?_ | ((with_reducible refine Kof.use hK ?_); clear hK hE K E) | ((with_reducible refine Eof.use hE ?_); (try clear hK hE K E)) | ((with_reducible refine Kof.use hKh ?_); clear hKh Kh) | ((with_reducible refine Kof.use hKb (P_next ?_)); clear hKb Kb) | (with_reducible first | refine G_plan 9 [([0, 1, 2, 3, 4, 5, 6, 7], 8, [[]])] [] hQe fun K E hK hE => ?_ | refine G_plan 14 [([0, 1, 2, 3, 4, 5, 6], 7, [[]])] [] hQe fun K E hK hE => ?_ | refine G_plan 16 [] [0, 1, 2, 3, 4, 5, 6, 7, 8, 9, 10, 11, 12, 13, 14, 15, 16, 17, 18, 19] hQe fun K E hK hE => ?_) | ((with_reducible refine W_cond (fun h => ?_) (fun h => ?_)) <;> (try (exfalso; first | assumption | omega))) | ((first | (with_reducible first | refine G_region fun K E hK hE => ?_ | refine call_ret can42 (Sprints_S _ (by assumption) _) ?_ | refine W_if ?_ | refine W_ifS ?_ | refine P_heads fun Kh hKh => ?_ | refine P_fin fun Kh hKh => ?_ | refine P_each fun Kb hKb => ?_ | refine W_and ?_) | ((with_reducible refine W_fresh (fun b hb => ?_)); (repeat (obtain ⟨_, hb⟩ := hb))) | ((with_reducible refine W_gd (fun h => ?_) (fun h => ?_)) <;> (try (exfalso; first | assumption | omega)))) <;> (try simp (disch := first | assumption | omega) only [go_sem, seval, List.length_map, *]))))
              all_goals (first | refine W_ret res23 hQ ?_ | refine W_norm res23 hQ ?_ | refine G_pan hQ ?_)
              exact ⟨_, s, Wk.refl _, HF2.out, fun _ => ⟨by rw [HR2.out], rfl⟩, fun h => absurd h (by rw [HR2.out]; decide)⟩
end Go.Proofs.YtdibndmkeipgbaaGreatDoor
