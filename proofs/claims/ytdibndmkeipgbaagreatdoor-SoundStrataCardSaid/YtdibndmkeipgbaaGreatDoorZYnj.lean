/- What is proved: What package sound's strata hands back. Conditions: what fits a memory; What package sound hands back for a program. Conditions: what fits a memory. Conditions: those that stand in the statements. -/
import Derived.Test.YtdibndmkeipgbaaGreatDoorZYlj
import Derived.Test.YtdibndmkeipgbaaGreatDoorZNi
set_option linter.unusedSimpArgs false
set_option linter.unusedVariables false
set_option maxRecDepth 100000
namespace Go.Proofs.YtdibndmkeipgbaaGreatDoor
open Go.RowKit

def nts (l : List Nat) : List VV := ints (List.map (fun n : Nat => (n : Int)) l)
theorem nts_len {l : List Nat} : (nts l).length = l.length := by simp [nts, ints]
theorem nts_at {l : List Nat} {i : Nat} (h : i < l.length) : (nts l)[i]? = some (.int .i64 (gt l i : Int)) := by
  have := gt_eq h
  simp [nts, ints, this]
theorem nts_set {l : List Nat} {i v : Nat} (h : i < l.length) : splice (nts l) i [.int .i64 (v : Int)] = nts (l.set i v) := by
  unfold nts
  rw [ints_set (by simpa using h), List.map_set]
theorem nts_rep {n : Nat} : List.replicate n (VV.int .i64 0) = nts (List.replicate n 0) := by simp [nts, ints]
def StQ (t : St) (r : Option (List Nat)) : SEnd → St → Prop := fun w u =>
  u = t ∧ match r with
  | some l => w = .ret (.tup [.lst (intsL (List.map (fun n : Nat => (n : Int)) l)) .no, .bool true])
  | none => w = .ret (.tup [.lst [] .no, .bool false])
theorem ixR_lk {p : Pgm} (n : List UInt8) : (lkA n (rlA p.decls)).getD 0 = ((ixR p n : Nat) : Int) := by
  rw [rlA_lk]
  unfold ixR
  cases relI p.decls n <;> rfl
theorem Sol_app {E F : List Edg} {f : Nat → Nat} : Sol (E ++ F) f ↔ Sol E f ∧ Sol F f := by
  unfold Sol
  constructor
  · intro h; exact ⟨fun e he => h e (List.mem_append_left _ he), fun e he => h e (List.mem_append_right _ he)⟩
  · rintro ⟨h, k⟩ e he
    rcases List.mem_append.1 he with a | a
    · exact h e a
    · exact k e a
/-- What holds between two rules of a round that began with l0. -/
structure Mid (E : List Edg) (n : Nat) (F : List Edg) (l0 l : List Nat) (ag : Bool) : Prop where
  len : l.length = n
  un : Under E l
  lt : ∀ i, i < n → gt l i < n
  up : ag = true → l0.sum < l.sum
  no : ag = false → l = l0 ∧ Sol F (gt l)
/-- What holds between two atoms of a rule whose head is h. -/
structure Inn (E : List Edg) (n h k : Nat) (F : List Edg) (l0 l : List Nat) (ag : Bool) : Prop where
  len : l.length = n
  un : Under E l
  lt : ∀ i, i < n → i ≠ h → gt l i < n
  top : gt l h < n + k
  up : ag = true → l0.sum < l.sum
  no : ag = false → l = l0 ∧ Sol F (gt l)
section
variable {E F : List Edg} {n h k : Nat} {l0 l : List Nat} {ag : Bool}
theorem Mid.inn (H : Mid E n F l0 l ag) (hh : h < n) : Inn E n h 0 F l0 l ag := ⟨H.len, H.un, fun i hi _ => H.lt i hi, H.lt h hh, H.up, H.no⟩
theorem Inn.mid (H : Inn E n h k F l0 l ag) (hh : gt l h < n) : Mid E n F l0 l ag := ⟨H.len, H.un, fun i hi => if e : i = h then e ▸ hh else H.lt i hi e, H.up, H.no⟩
theorem Inn.le (H : Inn E n h k F l0 l ag) : l0.sum ≤ l.sum := by
  cases ag
  · rw [(H.no rfl).1]; exact Nat.le_refl _
  · exact Nat.le_of_lt (H.up rfl)
theorem Inn.bd (H : Inn E n h k F l0 l ag) {i : Nat} (hi : i < n) : gt l i < n + k := by
  by_cases e : i = h
  · subst e; exact H.top
  · have := H.lt i hi e; omega
theorem Inn.keep (H : Inn E n h k F l0 l ag) {e : Edg} (he : gt l e.b + e.w ≤ gt l e.h) : Inn E n h (k + 1) (F ++ [e]) l0 l ag :=
  ⟨H.len, H.un, H.lt, by have := H.top; omega, H.up, fun x => ⟨(H.no x).1, Sol_app.2 ⟨(H.no x).2, fun e' he' => by rw [List.mem_singleton] at he'; subst he'; exact he⟩⟩⟩
theorem Inn.put (H : Inn E n h k F l0 l ag) {e : Edg} (hE : e ∈ E) (hh : e.h = h) (hl : h < n) (hb : e.b < n) (hw : e.w ≤ 1) (he : gt l h < gt l e.b + e.w) (F' : List Edg) : Inn E n h (k + 1) F' l0 (l.set h (gt l e.b + e.w)) true := by
  subst hh
  have hlen := H.len
  refine ⟨by rw [List.length_set]; exact hlen, under_set H.un hE (by omega), fun i hi hne => ?_, ?_, fun _ => ?_, fun x => by cases x⟩
  · rw [gt_set (by omega), if_neg hne]; exact H.lt i hi hne
  · rw [gt_set (by omega), if_pos rfl]
    have := H.bd hb
    omega
  · have := sum_set l e.h (gt l e.b + e.w) (by omega)
    have := H.le
    omega
end
theorem edgP_at {p : Pgm} {j : Nat} {r : Rul} (h : p.rules[j]? = some r) : ((p.rules.take (j + 1)).map (edgR p)).flatten = ((p.rules.take j).map (edgR p)).flatten ++ edgR p r := by rw [utake h, List.map_append, List.flatten_append]; simp
theorem edgP_in {p : Pgm} {r : Rul} {a : Atm} (h : r ∈ p.rules) (ha : a ∈ r.body) : (⟨ixR p r.head.rel, ixR p a.rel, if a.not = true then 1 else 0⟩ : Edg) ∈ edgP p := by
  unfold edgP edgR
  rw [List.mem_flatten]
  exact ⟨_, List.mem_map.2 ⟨r, h, rfl⟩, List.mem_map.2 ⟨a, ha, rfl⟩⟩
theorem mtake {α β : Type} {f : α → β} {l : List α} {k : Nat} {a : α} (h : l[k]? = some a) : (l.take (k + 1)).map f = (l.take k).map f ++ [f a] := by rw [utake h, List.map_append]; rfl
theorem nts_put {l : List Nat} {i v : Nat} (h : i < l.length) : List.take i (nts l) ++ [VV.int .i64 (v : Int)] ++ List.drop (i + 1) (nts l) = nts (l.set i v) := nts_set h
theorem Wk.tup2 {xs : List (List VV)} {o : Own} {a : VV} : Wk (.tup [.lst xs o, a]) (.tup [.lst xs .no, a]) :=
  Wk.tup rfl fun j x y hx hy => by
    match j with
    | 0 => simp only [List.getElem?_cons_zero, Option.some.injEq] at hx hy; subst hx hy; exact Wk.lst xs o
    | 1 => simp only [List.getElem?_cons_succ, List.getElem?_cons_zero, Option.some.injEq] at hx hy; subst hx hy; exact Wk.refl _
    | j + 2 => simp at hx
set_option maxHeartbeats 8000000 in
theorem Sstrata_S (t : St) (p b1 b2 : Nat) (x : Pgm) (hp : PrAt t p b1 b2 x) (hn : x.decls.length ≤ 100000) (hr : x.rules.length ≤ 100000) (hb : ∀ r, r ∈ x.rules → r.body.length ≤ 1000)
    (hD : ∀ r, r ∈ x.rules → ixR x r.head.rel < x.decls.length ∧ ∀ a, a ∈ r.body → ixR x a.rel < x.decls.length) :
    SCalls Tryz.prog 24 [.ptr p 0] t (StQ t (stgP x)) := by
  obtain ⟨hp0, h10, h20⟩ := hp
  have hpf : t p ≠ .free := by rw [hp0]; simp
  have h2f : t b2 ≠ .free := by rw [h20]; simp
  have hdl : (x.decls.map dclC).length = x.decls.length := by simp
  have hbb := Lib.hid hb
  clear hb
  refine G_enter Tryz.func24 rfl Tryz.ntmps24 rfl fun Q hQ hQe => ?_
  (repeat' (first | refine Ctl ?_ | ((with_reducible refine Kof.use hK ?_); clear hK hE K E) | ((with_reducible refine Eof.use hE ?_); (try clear hK hE K E)) | ((with_reducible refine Kof.use hKh ?_); clear hKh Kh) | ((with_reducible refine Kof.use hKb (P_next ?_)); clear hKb Kb) | (with_reducible first | refine G_plan 8 [] [0, 1, 2, 3, 4, 5, 6, 7, 8] hQe fun K E hK hE => ?_ | refine G_plan 12 [] [0, 1, 2, 3, 4, 5, 6, 7, 8, 9, 10] hQe fun K E hK hE => ?_) | ((with_reducible refine W_cond (fun h => ?_) (fun h => ?_)) <;> (try (exfalso; first | assumption | omega))) | ((first | (with_reducible first | refine G_region fun K E hK hE => ?_ | refine W_if ?_ | refine W_ifS ?_ | refine P_heads fun Kh hKh => ?_ | refine P_fin fun Kh hKh => ?_ | refine P_each fun Kb hKb => ?_ | refine W_and ?_) | ((with_reducible refine W_fresh (fun b hb => ?_)); (repeat (obtain ⟨_, hb⟩ := hb)); (try (obtain ⟨_, _⟩ := nef hb hpf; obtain ⟨_, _⟩ := nef hb h2f)))) <;> (try simp (disch := first | assumption | omega) only [go_sem, seval, hdl, *]))))
  obtain ⟨bo, hbo⟩ : ∃ z, z = b := ⟨_, rfl⟩
  subst hbo
  generalize hnn : x.decls.length = n at *
  rw [nts_rep]
  have hrl : (x.rules.map rulC).length = x.rules.length := by simp
  have hlk : ∀ q : List UInt8, (lkA q (rlA x.decls)).getD 0 = ((ixR x q : Nat) : Int) := fun q => ixR_lk q
  have HSTG : Hid (stgP x = stg n (edgP x)) := Lib.hid (by unfold stgP; rw [hnn])
  have hFO : Fg (t.set bo (.obj 3 (nts (List.replicate n 0)))) t := Fg.of_set _ hb
  refine G_loopS (fun m env s' => ∃ (l : List Nat) (ag : Bool), (l.length = n ∧ Under (edgP x) l ∧ (∀ i, i < n → gt l i < n) ∧ (ag = false → Sol (edgP x) (gt l)) ∧ m = 2 * (n * n - l.sum) + (if ag = true then 1 else 0)) ∧ s' = t.set bo (.obj 3 (nts l)) ∧
    env 0 = .ptr p 0 ∧ env 4 = .msl bo n ∧ env 5 = .bool ag) (2 * (n * n - (List.replicate n 0).sum) + 1) ?_ ?_
  · refine ⟨_, GS.refl _, List.replicate n 0, true, ⟨by simp, under_zero _ _, fun i hi => ?_, fun h => (by cases h), rfl⟩, rfl, z_sl, z_sl, z_sl⟩
    unfold gt
    rw [List.getElem?_replicate]
    split
    · exact (by omega : (0 : Nat) < n)
    · exact (by omega : (0 : Nat) < n)
  · rintro m env s' ⟨l0, ag, ⟨hlen, hun, hlt, hsol, hm⟩, rfl, e0, e4, e5⟩
    have HUN := Lib.hid hun
    have HLT := Lib.hid hlt
    have HSOL := Lib.hid hsol
    have HM := Lib.hid hm
    clear hun hlt hsol hm
    cases ag
    · have hLe : Least n (edgP x) l0 := ⟨hlen, HSOL.out rfl, HUN.out, HLT.out⟩
      have hst : stgP x = some l0 := by rw [HSTG.out]; exact stg_some hLe
      have HST := Lib.hid hst
      clear hst hLe HSOL HUN HLT HM
      refine Kp_frz 4 bo n (St.set_same _ _ _) e4 (by rw [nts_len]; exact hlen) ?_
      rw [St.set_set, St.set_self _ _ _ hb]
      (repeat' (first | refine Ctl ?_ | ((with_reducible refine Kof.use hK ?_); clear hK hE K E) | ((with_reducible refine Eof.use hE ?_); (try clear hK hE K E)) | ((with_reducible refine Kof.use hKh ?_); clear hKh Kh) | ((with_reducible refine Kof.use hKb (P_next ?_)); clear hKb Kb) | (with_reducible first | refine G_plan 8 [] [0, 1, 2, 3, 4, 5, 6, 7, 8] hQe fun K E hK hE => ?_ | refine G_plan 12 [] [0, 1, 2, 3, 4, 5, 6, 7, 8, 9, 10] hQe fun K E hK hE => ?_) | ((with_reducible refine W_cond (fun h => ?_) (fun h => ?_)) <;> (try (exfalso; first | assumption | omega))) | ((first | (with_reducible first | refine G_region fun K E hK hE => ?_ | refine W_if ?_ | refine W_ifS ?_ | refine P_heads fun Kh hKh => ?_ | refine P_fin fun Kh hKh => ?_ | refine P_each fun Kb hKb => ?_ | refine W_and ?_) | ((with_reducible refine W_fresh (fun b hb => ?_)); (repeat (obtain ⟨_, hb⟩ := hb)))) <;> (try simp (disch := first | assumption | omega) only [go_sem, seval, *]))))
      all_goals (first | refine W_ret res24 hQ ?_ | refine W_norm res24 hQ ?_ | refine G_pan hQ ?_)
      rw [HST.out]
      exact ⟨_, t, Wk.refl _, Fg.refl _, rfl, by unfold nts; rw [ints_frz]⟩
    · clear HSOL
      (repeat' (first | refine Ctl ?_ | ((with_reducible refine Kof.use hK ?_); clear hK hE K E) | ((with_reducible refine Eof.use hE ?_); (try clear hK hE K E)) | ((with_reducible refine Kof.use hKh ?_); clear hKh Kh) | ((with_reducible refine Kof.use hKb (P_next ?_)); clear hKb Kb) | (with_reducible first | refine G_plan 8 [] [0, 1, 2, 3, 4, 5, 6, 7, 8] hQe fun K E hK hE => ?_ | refine G_plan 12 [] [0, 1, 2, 3, 4, 5, 6, 7, 8, 9, 10] hQe fun K E hK hE => ?_) | ((with_reducible refine W_cond (fun h => ?_) (fun h => ?_)) <;> (try (exfalso; first | assumption | omega))) | ((first | (with_reducible first | refine G_region fun K E hK hE => ?_ | refine W_if ?_ | refine W_ifS ?_ | refine P_heads fun Kh hKh => ?_ | refine P_fin fun Kh hKh => ?_ | refine P_each fun Kb hKb => ?_ | refine W_and ?_) | ((with_reducible refine W_fresh (fun b hb => ?_)); (repeat (obtain ⟨_, hb⟩ := hb)))) <;> (try simp (disch := first | assumption | omega) only [go_sem, seval, hrl, *]))))
      refine G_loopS (fun m' env s' => ∃ (j : Nat) (l : List Nat) (ag : Bool), j ≤ x.rules.length ∧ m' + j = x.rules.length ∧ Hid (Mid (edgP x) n ((x.rules.take j).map (edgR x)).flatten l0 l ag) ∧ s' = t.set bo (.obj 3 (nts l)) ∧
        env 0 = .ptr p 0 ∧ env 4 = .msl bo n ∧ env 5 = .bool ag ∧ env 24 = .lst (x.rules.map rulC) .no ∧ env 25 = .int .i64 x.rules.length ∧ env 26 = .int .i64 j) x.rules.length ?_ ?_
      · exact ⟨_, GS.refl _, 0, l0, false, by omega, by omega, Lib.hid ⟨hlen, HUN.out, HLT.out, fun h => (by cases h), fun _ => ⟨rfl, fun e he => by simp at he⟩⟩, rfl, z_sl, z_sl, z_sl, z_sl, z_sl, z_sl⟩
      · clear e0 e4 e5
        rintro m' env s' ⟨j, l, ag, hj, hm', HMD, rfl, e0, e4, e5, e24, e25, e26⟩
        have hll := HMD.out.len
        by_cases hlt : j < x.rules.length
        · obtain ⟨r, hrj⟩ := uget hlt
          have hmem := List.mem_of_getElem? hrj
          have hbl := hbb.out r hmem
          obtain ⟨hdh, hda⟩ := hD r hmem
          have hsx := rulC_at hrj
          have HRJ := Lib.hid hrj
          have HME := Lib.hid hmem
          have HDA := Lib.hid hda
          clear hrj hmem hda
          (repeat' (first | refine Ctl ?_ | ((with_reducible refine Kof.use hK ?_); clear hK hE K E) | ((with_reducible refine Eof.use hE ?_); (try clear hK hE K E)) | ((with_reducible refine Kof.use hKh ?_); clear hKh Kh) | ((with_reducible refine Kof.use hKb (P_next ?_)); clear hKb Kb) | (with_reducible first | refine G_plan 8 [] [0, 1, 2, 3, 4, 5, 6, 7, 8] hQe fun K E hK hE => ?_ | refine G_plan 12 [] [0, 1, 2, 3, 4, 5, 6, 7, 8, 9, 10] hQe fun K E hK hE => ?_) | ((with_reducible refine W_cond (fun h => ?_) (fun h => ?_)) <;> (try (exfalso; first | assumption | omega))) | ((first | (with_reducible first | refine G_region fun K E hK hE => ?_ | refine W_if ?_ | refine W_ifS ?_ | refine P_heads fun Kh hKh => ?_ | refine P_fin fun Kh hKh => ?_ | refine P_each fun Kb hKb => ?_ | refine W_and ?_) | ((with_reducible refine W_fresh (fun b hb => ?_)); (repeat (obtain ⟨_, hb⟩ := hb)); (try (obtain ⟨_, _⟩ := nef hb hpf; obtain ⟨_, _⟩ := nef hb h2f)))) <;> (try simp (disch := first | assumption | omega) only [go_sem, seval, hrl, hsx, rulC, hlk, *]))))
          obtain ⟨br, hbr⟩ : ∃ z, z = b := ⟨_, rfl⟩
          subst hbr
          have hbl2 : (r.body.map atmC).length = r.body.length := by simp
          rw [show (t.set bo (.obj 3 (nts l))).set br (.obj 50 [.bool r.head.not, .str r.head.rel, .lst (r.head.ts.map trmC) .no, .lst (r.body.map atmC) .no]) = (t.set br (.obj 50 [.bool r.head.not, .str r.head.rel, .lst (r.head.ts.map trmC) .no, .lst (r.body.map atmC) .no])).set bo (.obj 3 (nts l)) from set_comm' (by assumption)]
          have hCr : (t.set br (.obj 50 [.bool r.head.not, .str r.head.rel, .lst (r.head.ts.map trmC) .no, .lst (r.body.map atmC) .no])) br ≠ .free := by rw [St.set_same]; simp
          have hCp : (t.set br (.obj 50 [.bool r.head.not, .str r.head.rel, .lst (r.head.ts.map trmC) .no, .lst (r.body.map atmC) .no])) p = .obj 101 [.lst (x.doms.map dmC) .no, .lst (x.decls.map dclC) .no, .lst (x.rules.map rulC) .no, .mp b1, .mp b2] := by rw [St.set_other _ _ (by assumption)]; exact hp0
          have hC2 : (t.set br (.obj 50 [.bool r.head.not, .str r.head.rel, .lst (r.head.ts.map trmC) .no, .lst (r.body.map atmC) .no])) b2 = .map (mpV encI (rlA x.decls)) := by rw [St.set_other _ _ (by assumption)]; exact h20
          have hFC : Fg (t.set br (.obj 50 [.bool r.head.not, .str r.head.rel, .lst (r.head.ts.map trmC) .no, .lst (r.body.map atmC) .no])) t := Fg.of_set _ (by assumption)
          have hCo : (t.set br (.obj 50 [.bool r.head.not, .str r.head.rel, .lst (r.head.ts.map trmC) .no, .lst (r.body.map atmC) .no])) bo = .free := by rw [St.set_other _ _ (by assumption)]; assumption
          generalize t.set br (.obj 50 [.bool r.head.not, .str r.head.rel, .lst (r.head.ts.map trmC) .no, .lst (r.body.map atmC) .no]) = C at *
          have HFC := Lib.hid hFC
          clear hFC
          have hCpf : C p ≠ .free := by rw [hCp]; simp
          have hC2f : C b2 ≠ .free := by rw [hC2]; simp
          generalize hh : ixR x r.head.rel = hd at *
          refine G_loopS (fun m'' env s' => ∃ (k : Nat) (l : List Nat) (ag : Bool), k ≤ r.body.length ∧ m'' + k = r.body.length ∧ Hid (Inn (edgP x) n hd k (((x.rules.take j).map (edgR x)).flatten ++ ((r.body.take k).map fun a => (⟨hd, ixR x a.rel, if a.not = true then 1 else 0⟩ : Edg))) l0 l ag) ∧ s' = C.set bo (.obj 3 (nts l)) ∧
            env 0 = .ptr p 0 ∧ env 4 = .msl bo n ∧ env 5 = .bool ag ∧ env 24 = .lst (x.rules.map rulC) .no ∧ env 25 = .int .i64 x.rules.length ∧ env 26 = .int .i64 j ∧ env 8 = .int .i64 hd ∧ env 39 = .lst (r.body.map atmC) .no ∧ env 40 = .int .i64 r.body.length ∧ env 41 = .int .i64 k) r.body.length ?_ ?_
          · exact ⟨_, GS.refl _, 0, l, ag, by omega, by omega, Lib.hid (by simpa using HMD.out.inn hdh), rfl, z_sl, z_sl, z_sl, z_sl, z_sl, z_sl, z_sl, z_sl, z_sl, z_sl⟩
          · clear e0 e4 e5 e24 e25 e26 hll
            rintro m'' env s' ⟨k, l, ag, hk, hm'', HIN, rfl, e0, e4, e5, e24, e25, e26, e8, e39, e40, e41⟩
            have hll := HIN.out.len
            have hnl : (nts l).length = n := by rw [nts_len]; exact hll
            have hth := HIN.out.top
            have hah := nts_at (l := l) (i := hd) (by omega)
            by_cases hlk2 : k < r.body.length
            · obtain ⟨c, hc⟩ := uget hlk2
              have hcm := List.mem_of_getElem? hc
              have hsy := atmC_at hc
              have hci := HDA.out c hcm
              have HC := Lib.hid hc
              have hac := nts_at (l := l) (i := ixR x c.rel) (by omega)
              have hcb := HIN.out.bd hci
              obtain ⟨cn, cr, cts⟩ := c
              simp only at hci hac hcb
              generalize hv : gt l (ixR x cr) = v at *
              generalize hu : gt l hd = u at *
              have HV := Lib.hid hv
              have HU := Lib.hid hu
              clear hv hu hc
              cases cn
              · by_cases hgt : u < v
                · (repeat' (first | refine Ctl ?_ | ((with_reducible refine Kof.use hK ?_); clear hK hE K E) | ((with_reducible refine Eof.use hE ?_); (try clear hK hE K E)) | ((with_reducible refine Kof.use hKh ?_); clear hKh Kh) | ((with_reducible refine Kof.use hKb (P_next ?_)); clear hKb Kb) | (with_reducible first | refine G_plan 8 [] [0, 1, 2, 3, 4, 5, 6, 7, 8] hQe fun K E hK hE => ?_ | refine G_plan 12 [] [0, 1, 2, 3, 4, 5, 6, 7, 8, 9, 10] hQe fun K E hK hE => ?_) | ((with_reducible refine W_cond (fun h => ?_) (fun h => ?_)) <;> (try (exfalso; first | assumption | omega))) | ((first | (with_reducible first | refine G_region fun K E hK hE => ?_ | refine W_if ?_ | refine W_ifS ?_ | refine P_heads fun Kh hKh => ?_ | refine P_fin fun Kh hKh => ?_ | refine P_each fun Kb hKb => ?_ | refine W_and ?_) | ((with_reducible refine W_fresh (fun b hb => ?_)); (repeat (obtain ⟨_, hb⟩ := hb)); (try (obtain ⟨_, _⟩ := nef hb hCpf; obtain ⟨_, _⟩ := nef hb hC2f; obtain ⟨_, _⟩ := nef hb hCr)))) <;> (try simp (disch := first | assumption | omega) only [go_sem, seval, hbl2, hsy, atmC, hlk, hnl, hac, hah, *]))))
                  have hI := HIN.out.put (e := ⟨hd, ixR x cr, 0⟩) (by have := edgP_in HME.out hcm; rw [hh] at this; exact this) rfl hdh hci (by simp) (by show gt l hd < gt l (ixR x cr) + 0; rw [HU.out, show gt l (ixR x cr) = v from HV.out]; omega) (((x.rules.take j).map (edgR x)).flatten ++ ((r.body.take (k + 1)).map fun a => (⟨hd, ixR x a.rel, if a.not = true then 1 else 0⟩ : Edg)))
                  rw [show gt l (ixR x cr) = v from HV.out] at hI
                  rw [nts_put (by omega)]
                  exact ⟨C.set bo (.obj 3 (nts (l.set hd (v)))), GS.of_fg (Fg.of_set _ (by rw [St.set_other _ _ (by assumption)]; assumption)), m'' - 1, by omega, k + 1, l.set hd (v), true, by omega, by omega, Lib.hid hI, rfl, z_sl, z_sl, z_sl, z_sl, z_sl, z_sl, z_sl, z_sl, z_sl, z_sl⟩
                · (repeat' (first | refine Ctl ?_ | ((with_reducible refine Kof.use hK ?_); clear hK hE K E) | ((with_reducible refine Eof.use hE ?_); (try clear hK hE K E)) | ((with_reducible refine Kof.use hKh ?_); clear hKh Kh) | ((with_reducible refine Kof.use hKb (P_next ?_)); clear hKb Kb) | (with_reducible first | refine G_plan 8 [] [0, 1, 2, 3, 4, 5, 6, 7, 8] hQe fun K E hK hE => ?_ | refine G_plan 12 [] [0, 1, 2, 3, 4, 5, 6, 7, 8, 9, 10] hQe fun K E hK hE => ?_) | ((with_reducible refine W_cond (fun h => ?_) (fun h => ?_)) <;> (try (exfalso; first | assumption | omega))) | ((first | (with_reducible first | refine G_region fun K E hK hE => ?_ | refine W_if ?_ | refine W_ifS ?_ | refine P_heads fun Kh hKh => ?_ | refine P_fin fun Kh hKh => ?_ | refine P_each fun Kb hKb => ?_ | refine W_and ?_) | ((with_reducible refine W_fresh (fun b hb => ?_)); (repeat (obtain ⟨_, hb⟩ := hb)); (try (obtain ⟨_, _⟩ := nef hb hCpf; obtain ⟨_, _⟩ := nef hb hC2f; obtain ⟨_, _⟩ := nef hb hCr)))) <;> (try simp (disch := first | assumption | omega) only [go_sem, seval, hbl2, hsy, atmC, hlk, hnl, hac, hah, *]))))
                  have hI := HIN.out.keep (e := ⟨hd, ixR x cr, 0⟩) (by show gt l (ixR x cr) + 0 ≤ gt l hd; rw [show gt l (ixR x cr) = v from HV.out, HU.out]; omega)
                  refine ⟨C.set bo (.obj 3 (nts l)), GS.of_fg (Fg.of_set _ (by rw [St.set_other _ _ (by assumption)]; assumption)), m'' - 1, by omega, k + 1, l, ag, by omega, by omega, Lib.hid ?_, rfl, z_sl, z_sl, z_sl, z_sl, z_sl, z_sl, z_sl, z_sl, z_sl, z_sl⟩
                  rw [mtake HC.out, ← List.append_assoc]
                  exact hI
              · by_cases hgt : u < v + 1
                · (repeat' (first | refine Ctl ?_ | ((with_reducible refine Kof.use hK ?_); clear hK hE K E) | ((with_reducible refine Eof.use hE ?_); (try clear hK hE K E)) | ((with_reducible refine Kof.use hKh ?_); clear hKh Kh) | ((with_reducible refine Kof.use hKb (P_next ?_)); clear hKb Kb) | (with_reducible first | refine G_plan 8 [] [0, 1, 2, 3, 4, 5, 6, 7, 8] hQe fun K E hK hE => ?_ | refine G_plan 12 [] [0, 1, 2, 3, 4, 5, 6, 7, 8, 9, 10] hQe fun K E hK hE => ?_) | ((with_reducible refine W_cond (fun h => ?_) (fun h => ?_)) <;> (try (exfalso; first | assumption | omega))) | ((first | (with_reducible first | refine G_region fun K E hK hE => ?_ | refine W_if ?_ | refine W_ifS ?_ | refine P_heads fun Kh hKh => ?_ | refine P_fin fun Kh hKh => ?_ | refine P_each fun Kb hKb => ?_ | refine W_and ?_) | ((with_reducible refine W_fresh (fun b hb => ?_)); (repeat (obtain ⟨_, hb⟩ := hb)); (try (obtain ⟨_, _⟩ := nef hb hCpf; obtain ⟨_, _⟩ := nef hb hC2f; obtain ⟨_, _⟩ := nef hb hCr)))) <;> (try simp (disch := first | assumption | omega) only [go_sem, seval, hbl2, hsy, atmC, hlk, hnl, hac, hah, *]))))
                  have hI := HIN.out.put (e := ⟨hd, ixR x cr, 1⟩) (by have := edgP_in HME.out hcm; rw [hh] at this; exact this) rfl hdh hci (by simp) (by show gt l hd < gt l (ixR x cr) + 1; rw [HU.out, show gt l (ixR x cr) = v from HV.out]; omega) (((x.rules.take j).map (edgR x)).flatten ++ ((r.body.take (k + 1)).map fun a => (⟨hd, ixR x a.rel, if a.not = true then 1 else 0⟩ : Edg)))
                  rw [show gt l (ixR x cr) = v from HV.out] at hI
                  rw [nts_put (by omega)]
                  exact ⟨C.set bo (.obj 3 (nts (l.set hd (v + 1)))), GS.of_fg (Fg.of_set _ (by rw [St.set_other _ _ (by assumption)]; assumption)), m'' - 1, by omega, k + 1, l.set hd (v + 1), true, by omega, by omega, Lib.hid hI, rfl, z_sl, z_sl, z_sl, z_sl, z_sl, z_sl, z_sl, z_sl, z_sl, z_sl⟩
                · (repeat' (first | refine Ctl ?_ | ((with_reducible refine Kof.use hK ?_); clear hK hE K E) | ((with_reducible refine Eof.use hE ?_); (try clear hK hE K E)) | ((with_reducible refine Kof.use hKh ?_); clear hKh Kh) | ((with_reducible refine Kof.use hKb (P_next ?_)); clear hKb Kb) | (with_reducible first | refine G_plan 8 [] [0, 1, 2, 3, 4, 5, 6, 7, 8] hQe fun K E hK hE => ?_ | refine G_plan 12 [] [0, 1, 2, 3, 4, 5, 6, 7, 8, 9, 10] hQe fun K E hK hE => ?_) | ((with_reducible refine W_cond (fun h => ?_) (fun h => ?_)) <;> (try (exfalso; first | assumption | omega))) | ((first | (with_reducible first | refine G_region fun K E hK hE => ?_ | refine W_if ?_ | refine W_ifS ?_ | refine P_heads fun Kh hKh => ?_ | refine P_fin fun Kh hKh => ?_ | refine P_each fun Kb hKb => ?_ | refine W_and ?_) | ((with_reducible refine W_fresh (fun b hb => ?_)); (repeat (obtain ⟨_, hb⟩ := hb)); (try (obtain ⟨_, _⟩ := nef hb hCpf; obtain ⟨_, _⟩ := nef hb hC2f; obtain ⟨_, _⟩ := nef hb hCr)))) <;> (try simp (disch := first | assumption | omega) only [go_sem, seval, hbl2, hsy, atmC, hlk, hnl, hac, hah, *]))))
                  have hI := HIN.out.keep (e := ⟨hd, ixR x cr, 1⟩) (by show gt l (ixR x cr) + 1 ≤ gt l hd; rw [show gt l (ixR x cr) = v from HV.out, HU.out]; omega)
                  refine ⟨C.set bo (.obj 3 (nts l)), GS.of_fg (Fg.of_set _ (by rw [St.set_other _ _ (by assumption)]; assumption)), m'' - 1, by omega, k + 1, l, ag, by omega, by omega, Lib.hid ?_, rfl, z_sl, z_sl, z_sl, z_sl, z_sl, z_sl, z_sl, z_sl, z_sl, z_sl⟩
                  rw [mtake HC.out, ← List.append_assoc]
                  exact hI
            · have hke : k = r.body.length := by omega
              by_cases htop : gt l hd < n
              · (repeat' (first | refine Ctl ?_ | ((with_reducible refine Kof.use hK ?_); clear hK hE K E) | ((with_reducible refine Eof.use hE ?_); (try clear hK hE K E)) | ((with_reducible refine Kof.use hKh ?_); clear hKh Kh) | ((with_reducible refine Kof.use hKb (P_next ?_)); clear hKb Kb) | (with_reducible first | refine G_plan 8 [] [0, 1, 2, 3, 4, 5, 6, 7, 8] hQe fun K E hK hE => ?_ | refine G_plan 12 [] [0, 1, 2, 3, 4, 5, 6, 7, 8, 9, 10] hQe fun K E hK hE => ?_) | ((with_reducible refine W_cond (fun h => ?_) (fun h => ?_)) <;> (try (exfalso; first | assumption | omega))) | ((first | (with_reducible first | refine G_region fun K E hK hE => ?_ | refine W_if ?_ | refine W_ifS ?_ | refine P_heads fun Kh hKh => ?_ | refine P_fin fun Kh hKh => ?_ | refine P_each fun Kb hKb => ?_ | refine W_and ?_) | ((with_reducible refine W_fresh (fun b hb => ?_)); (repeat (obtain ⟨_, hb⟩ := hb)))) <;> (try simp (disch := first | assumption | omega) only [go_sem, seval, hbl2, hnl, hah, *]))))
                refine ⟨t.set bo (.obj 3 (nts l)), GS.of_fg (Fg.set HFC.out _ _), m' - 1, by omega, j + 1, l, ag, by omega, by omega, Lib.hid ?_, rfl, z_sl, z_sl, z_sl, z_sl, z_sl, z_sl⟩
                have hI := HIN.out.mid htop
                rw [hke, List.take_length] at hI
                rw [edgP_at HRJ.out]
                unfold edgR at hI ⊢
                rw [hh]
                exact hI
              · have hst : stgP x = none := by rw [HSTG.out]; exact stg_none (under_nosol HIN.out.un hdh (by omega))
                have HST := Lib.hid hst
                clear hst
                (repeat' (first | refine Ctl ?_ | ((with_reducible refine Kof.use hK ?_); clear hK hE K E) | ((with_reducible refine Eof.use hE ?_); (try clear hK hE K E)) | ((with_reducible refine Kof.use hKh ?_); clear hKh Kh) | ((with_reducible refine Kof.use hKb (P_next ?_)); clear hKb Kb) | (with_reducible first | refine G_plan 8 [] [0, 1, 2, 3, 4, 5, 6, 7, 8] hQe fun K E hK hE => ?_ | refine G_plan 12 [] [0, 1, 2, 3, 4, 5, 6, 7, 8, 9, 10] hQe fun K E hK hE => ?_) | ((with_reducible refine W_cond (fun h => ?_) (fun h => ?_)) <;> (try (exfalso; first | assumption | omega))) | ((first | (with_reducible first | refine G_region fun K E hK hE => ?_ | refine W_if ?_ | refine W_ifS ?_ | refine P_heads fun Kh hKh => ?_ | refine P_fin fun Kh hKh => ?_ | refine P_each fun Kb hKb => ?_ | refine W_and ?_) | ((with_reducible refine W_fresh (fun b hb => ?_)); (repeat (obtain ⟨_, hb⟩ := hb)))) <;> (try simp (disch := first | assumption | omega) only [go_sem, seval, hbl2, hnl, hah, *]))))
                all_goals (first | refine W_ret res24 hQ ?_ | refine W_norm res24 hQ ?_ | refine G_pan hQ ?_)
                rw [HST.out]
                exact ⟨_, t, Wk.tup2, (Fg.of_set _ hCo).trans HFC.out, rfl, rfl⟩
        · (repeat' (first | refine Ctl ?_ | ((with_reducible refine Kof.use hK ?_); clear hK hE K E) | ((with_reducible refine Eof.use hE ?_); (try clear hK hE K E)) | ((with_reducible refine Kof.use hKh ?_); clear hKh Kh) | ((with_reducible refine Kof.use hKb (P_next ?_)); clear hKb Kb) | (with_reducible first | refine G_plan 8 [] [0, 1, 2, 3, 4, 5, 6, 7, 8] hQe fun K E hK hE => ?_ | refine G_plan 12 [] [0, 1, 2, 3, 4, 5, 6, 7, 8, 9, 10] hQe fun K E hK hE => ?_) | ((with_reducible refine W_cond (fun h => ?_) (fun h => ?_)) <;> (try (exfalso; first | assumption | omega))) | ((first | (with_reducible first | refine G_region fun K E hK hE => ?_ | refine W_if ?_ | refine W_ifS ?_ | refine P_heads fun Kh hKh => ?_ | refine P_fin fun Kh hKh => ?_ | refine P_each fun Kb hKb => ?_ | refine W_and ?_) | ((with_reducible refine W_fresh (fun b hb => ?_)); (repeat (obtain ⟨_, hb⟩ := hb)))) <;> (try simp (disch := first | assumption | omega) only [go_sem, seval, hrl, *]))))
          have HH := HMD.out
          rw [show j = x.rules.length by omega, List.take_length] at HH
          have hE : edgP x = ((x.rules).map (edgR x)).flatten := rfl
          rw [← hE] at HH
          have hs1 := sum_le (m := n) l HH.len (fun i hi => Nat.le_of_lt (HH.lt i hi))
          have hm := HM.out
          refine ⟨_, GS.refl _, 2 * (n * n - l.sum) + (if ag = true then 1 else 0), ?_, l, ag, ⟨HH.len, HH.un, HH.lt, fun h => (HH.no h).2, rfl⟩, rfl, z_sl, z_sl, z_sl⟩
          rw [hm]
          cases ag
          · rw [(HH.no rfl).1]; simp
          · have := HH.up rfl
            simp only [if_true]
            omega
end Go.Proofs.YtdibndmkeipgbaaGreatDoor
set_option maxRecDepth 100000
namespace Go.Proofs.YtdibndmkeipgbaaGreatDoor
open Go.RowKit

theorem read_pgm {x : Pgm} (h : readE x = 0) : pgmB x = true := by
  unfold readE at h
  cases hB : pgmB x with
  | true => rfl
  | false => rw [if_pos hB] at h; cases h
theorem atm_ts {a : Atm} (h : atmB a = true) : a.ts.length ≤ 8 := by
  unfold atmB at h
  simp only [Bool.and_eq_true, decide_eq_true_eq] at h
  grind
theorem pgm_bd {x : Pgm} (h : pgmB x = true) : x.decls.length ≤ 32 ∧ x.rules.length ≤ 64 ∧ ∀ r, r ∈ x.rules → r.head.ts.length ≤ 8 ∧ r.body.length ≤ 8 ∧ ∀ a, a ∈ r.body → a.ts.length ≤ 8 := by
  simp only [pgmB, Bool.and_eq_true, decide_eq_true_eq, List.all_eq_true] at h
  obtain ⟨⟨⟨⟨⟨_, h2⟩, h3⟩, _⟩, _⟩, h6⟩ := h
  refine ⟨h2, h3, fun r hr => ?_⟩
  have := h6 r hr
  simp only [rulB, Bool.and_eq_true, decide_eq_true_eq, List.all_eq_true] at this
  obtain ⟨⟨⟨⟨⟨g1, _⟩, _⟩, _⟩, g5⟩, g6⟩ := this
  exact ⟨atm_ts g1, g5, fun a ha => atm_ts (g6 a ha)⟩
theorem atomS_rel {p : Pgm} {X Y : Scp} {a : Atm} (h : atomS p X a = .ok Y) : ixR p a.rel < p.decls.length := by
  unfold atomS at h
  unfold ixR
  cases hk : relI p.decls a.rel with
  | none => rw [hk] at h; cases h
  | some k =>
    rw [hk] at h
    simp only [Option.getD_some]
    cases hd : p.decls[k]? with
    | none => simp only [hd] at h; cases h
    | some d => exact (List.getElem?_eq_some_iff.1 hd).1
theorem atomsS_rel {p : Pgm} : ∀ (l : List Atm) {X Y : Scp}, atomsS p X l = .ok Y → ∀ a, a ∈ l → ixR p a.rel < p.decls.length
  | [], _, _, _, a, ha => by cases ha
  | b :: l, X, Y, h, a, ha => by
    simp only [atomsS] at h
    cases hb : atomS p X b with
    | error e => rw [hb] at h; cases h
    | ok Z =>
      rw [hb, eb_ok] at h
      rcases List.mem_cons.1 ha with rfl | ha
      · exact atomS_rel hb
      · exact atomsS_rel l h a ha
theorem scopeS_rel {p : Pgm} {r : Rul} {Y : Scp} (h : scopeS p r = .ok Y) : ixR p r.head.rel < p.decls.length ∧ ∀ a, a ∈ r.body → ixR p a.rel < p.decls.length := by
  unfold scopeS at h
  cases h1 : atomS p ⟨[], []⟩ r.head with
  | error e => rw [h1] at h; cases h
  | ok X =>
    rw [h1, eb_ok] at h
    cases h2 : atomsS p X r.body with
    | error e => rw [h2] at h; cases h
    | ok Z => exact ⟨atomS_rel h1, atomsS_rel _ h2⟩
theorem scopeS_err {p : Pgm} {r : Rul} {e : Int} (h : scopeS p r = .error e) : e ≠ 0 := by
  have hts : ∀ (l : List Atm) (X : Scp) (e : Int), atomsS p X l = .error e → e ≠ 0 := by
    intro l
    induction l with
    | nil => intro X e h; simp only [atomsS] at h; cases h
    | cons a l ih =>
      intro X e h
      simp only [atomsS] at h
      cases h1 : atomS p X a with
      | error e' => rw [h1] at h; injection h with h; subst h; exact atomS_err h1
      | ok Z => rw [h1, eb_ok] at h; exact ih _ _ h
  unfold scopeS at h
  cases h1 : atomS p ⟨[], []⟩ r.head with
  | error e' => rw [h1] at h; injection h with h; subst h; exact atomS_err h1
  | ok X =>
    rw [h1, eb_ok] at h
    cases h2 : atomsS p X r.body with
    | error e' => rw [h2] at h; injection h with h; subst h; exact hts _ _ _ h2
    | ok Z =>
      rw [h2, eb_ok] at h
      split at h
      · injection h with h; subst h; decide
      · split at h
        · injection h with h; subst h; decide
        · cases h
theorem badR_all {p : Pgm} : ∀ (l : List Rul) (k : Nat), badR p k l = none → ∀ r, r ∈ l → ∃ Y, scopeS p r = .ok Y
  | [], _, _, r, hr => by cases hr
  | a :: l, k, h, r, hr => by
    simp only [badR] at h
    cases ha : scopeS p a with
    | error e => rw [ha] at h; cases h
    | ok Y =>
      rw [ha] at h
      rcases List.mem_cons.1 hr with rfl | hr
      · exact ⟨Y, ha⟩
      · exact badR_all l (k + 1) h r hr
section
variable (x : Pgm) (hx : PgmOk x) (s : St)
theorem Sread_no (hx : PgmOk x) (h : readE x ≠ 0) : SRet Tryz.prog 23 [.agg (pgC x)] s (.tup [.raw (.pointer none), .int .i64 (readE x)]) s :=
  (Sread_S x hx s).mono fun w u hq => hq.1 h
theorem Sread_ok (hx : PgmOk x) (h : readE x = 0) (b : Nat) (c : Cell) (hc : c ≠ .free) : SCalls Tryz.prog 23 [.agg (pgC x)] (s.set b c) fun w u => ∃ q : Nat × Nat × Nat × St, w = .ret (.tup [.ptr q.1 0, .int .i64 0]) ∧ u = q.2.2.2 ∧ (PrAt q.2.2.2 q.1 q.2.1 q.2.2.1 x ∧ Fg q.2.2.2 (s.set b c) ∧ q.2.2.2 b = c) :=
  (Sread_S x hx _).mono fun w u hq => by
    obtain ⟨p, b1, b2, h1, h2, h3⟩ := hq.2 h
    exact ⟨(p, b1, b2, u), h1, rfl, h2, h3, (h3.keep (by rw [St.set_same]; exact hc)).trans (St.set_same _ _ _)⟩
end
section
variable (t : St) (p b1 b2 : Nat) (x : Pgm) (r : Rul) (hp : PrAt t p b1 b2 x) (hb : r.head.ts.length ≤ 8 ∧ r.body.length ≤ 8 ∧ ∀ a, a ∈ r.body → a.ts.length ≤ 8)
include hp hb
theorem Sscope_no (e : Int) (h : scopeS x r = .error e) : SRet Tryz.prog 21 [.ptr p 0, .agg [.bool r.head.not, .str r.head.rel, .lst (r.head.ts.map trmC) .no, .lst (r.body.map atmC) .no]] t (.tup [.raw (.pointer none), .int .i64 e]) t := by
  have := Sscope_S t p b1 b2 x r hp (by omega) (by omega) (fun a ha => Nat.le_trans (hb.2.2 a ha) (by omega))
  rw [h] at this
  exact this
theorem Sscope_ok (Y : Scp) (h : scopeS x r = .ok Y) : SCalls Tryz.prog 21 [.ptr p 0, .agg [.bool r.head.not, .str r.head.rel, .lst (r.head.ts.map trmC) .no, .lst (r.body.map atmC) .no]] t fun w u => ∃ q : Nat × St, w = .ret (.tup [.ptr q.1 0, .int .i64 0]) ∧ u = q.2 ∧ Fg q.2 t := by
  have := Sscope_S t p b1 b2 x r hp (by omega) (by omega) (fun a ha => Nat.le_trans (hb.2.2 a ha) (by omega))
  rw [h] at this
  exact this.mono fun w u hq => by
    obtain ⟨xb, bm, h1, h2, _⟩ := hq
    exact ⟨(xb, u), h1, rfl, h2⟩
end
section
variable (t : St) (p b1 b2 : Nat) (x : Pgm) (hp : PrAt t p b1 b2 x) (hn : x.decls.length ≤ 32) (hr : x.rules.length ≤ 64) (hb : ∀ r, r ∈ x.rules → r.head.ts.length ≤ 8 ∧ r.body.length ≤ 8 ∧ ∀ a, a ∈ r.body → a.ts.length ≤ 8) (hD : badR x 0 x.rules = none)
include hp hn hr hb hD
theorem Sstrata_no (h : stgP x = none) : SRet Tryz.prog 24 [.ptr p 0] t (.tup [.lst [] .no, .bool false]) t := by
  have := Sstrata_S t p b1 b2 x hp (by omega) (by omega) (fun r hr => Nat.le_trans (hb r hr).2.1 (by omega)) (fun r hr => by obtain ⟨Y, hY⟩ := badR_all _ _ hD r hr; exact scopeS_rel hY)
  rw [h] at this
  exact this.mono fun w u hq => ⟨hq.2, hq.1⟩
theorem Sstrata_ok (l : List Nat) (h : stgP x = some l) : SRet Tryz.prog 24 [.ptr p 0] t (.tup [.lst (intsL (List.map (fun n : Nat => (n : Int)) l)) .no, .bool true]) t := by
  have := Sstrata_S t p b1 b2 x hp (by omega) (by omega) (fun r hr => Nat.le_trans (hb r hr).2.1 (by omega)) (fun r hr => by obtain ⟨Y, hY⟩ := badR_all _ _ hD r hr; exact scopeS_rel hY)
  rw [h] at this
  exact this.mono fun w u hq => ⟨hq.2, hq.1⟩
end
theorem Wk.tupL {xs ys : List VV} (h : WkL xs ys) : Wk (.tup xs) (.tup ys) :=
  Wk.tup h.len fun j x y hx hy => by
    obtain ⟨x', h1, h2, _⟩ := h.get j y hy
    rw [hx] at h1
    injection h1 with h1
    subst h1
    exact h2
set_option maxHeartbeats 8000000 in
theorem SallP_S (x : Pgm) (hx : PgmOk x) (t : St) :
    SCalls Tryz.prog 17 [.agg (pgC x)] t fun w u => ∃ P : VV, w = .ret (.tup [P, .lst (intsL (List.map (fun n : Nat => (n : Int)) (soundP x).2.2)) .no, .int .i64 (soundP x).1, .int .i64 (soundP x).2.1]) ∧ Fg u t ∧ ((soundP x).2.1 = 0 → ∃ p b1 b2, P = .ptr p 0 ∧ PrAt u p b1 b2 x) := by
  by_cases hr : readE x = 0
  · have hBd := pgm_bd (read_pgm hr)
    obtain ⟨hdl, hrl, hbd⟩ := hBd
    have hs : soundP x = match badR x 0 x.rules with | some (k, e) => ((k : Int), e, []) | none => match stgP x with | none => (-1, 126, []) | some l => (-1, 0, l) := by
      unfold soundP; rw [if_neg (by simp [hr])]; rfl
    generalize hZ : soundP x = Z at hs
    have HS := Lib.hid hs
    clear hs hZ
    have HBD := Lib.hid hbd
    have w1 := fun s b c hc => Sread_ok x s hx hr b c hc
    clear hr hbd
    simp only [pgC] at w1 ⊢
    have hlen : (x.rules.map rulC).length = x.rules.length := by simp
    refine G_enter Tryz.func17 rfl Tryz.ntmps17 rfl fun Q hQ hQe => ?_
    (repeat' (first | refine Ctl ?_ | ((with_reducible refine Kof.use hK ?_); clear hK hE K E) | ((with_reducible refine Eof.use hE ?_); (try clear hK hE K E)) | ((with_reducible refine W_cond (fun h => ?_) (fun h => ?_)) <;> (try (exfalso; first | assumption | omega))) | ((first | (with_reducible first | refine G_region fun K E hK hE => ?_ | refine W_if ?_ | refine W_ifS ?_ | refine W_and ?_) | ((with_reducible refine call_ex can23 (w1 _ _ _ (by simp)) (fun a h => ?_))) | ((with_reducible refine W_fresh (fun b hb => ?_)); (repeat (obtain ⟨_, hb⟩ := hb)))) <;> (try simp (disch := first | assumption | omega) only [go_sem, seval, hlen, *]))))
    rename_i hq
    obtain ⟨p, b1, b2, S⟩ := a
    simp only at hq ⊢
    obtain ⟨hP, hF, hSb⟩ := hq
    have hF2 : Fg S t := hF.trans (Fg.of_set _ hb)
    have HP := Lib.hid hP
    have HF := Lib.hid hF2
    have hSbf : S b ≠ .free := by rw [hSb]; simp
    clear hP hF hF2 hb w1
    refine G_loopS (fun m env s' => ∃ i : Nat, i ≤ x.rules.length ∧ m + i = x.rules.length ∧ Hid (badR x 0 x.rules = badR x i (x.rules.drop i)) ∧ s' = S ∧
      env 6 = .ptr p 0 ∧ env 23 = .lst (x.rules.map rulC) .no ∧ env 24 = .int .i64 x.rules.length ∧ env 25 = .int .i64 i) x.rules.length ?_ ?_
    · exact ⟨_, GS.refl _, 0, by omega, by omega, Lib.hid (by simp), rfl, z_sl, z_sl, z_sl, z_sl⟩
    · rintro m env s' ⟨i, hi, hm, HI, rfl, e6, e23, e24, e25⟩
      by_cases hlt : i < x.rules.length
      · obtain ⟨r, hrj⟩ := uget hlt
        have hmem := List.mem_of_getElem? hrj
        have hbl := HBD.out r hmem
        have hsx := rulC_at hrj
        have hI := HI.out
        rw [List.drop_eq_getElem_cons hlt, show x.rules[i] = r by rw [List.getElem?_eq_getElem hlt] at hrj; injection hrj] at hI
        simp only [badR] at hI
        have HBL := Lib.hid hbl
        clear hrj hmem hbl
        cases hsc : scopeS x r with
        | error e =>
          rw [hsc] at hI
          simp only at hI
          have hen := scopeS_err hsc
          have hZ : Z = ((i : Int), e, []) := by rw [HS.out, hI]
          have HZ := Lib.hid hZ
          have HSC := Lib.hid hsc
          clear hI hZ hsc HI
          (repeat' (first | refine Ctl ?_ | ((with_reducible refine Kof.use hK ?_); clear hK hE K E) | ((with_reducible refine Eof.use hE ?_); (try clear hK hE K E)) | ((with_reducible refine W_cond (fun h => ?_) (fun h => ?_)) <;> (try (exfalso; first | assumption | omega))) | ((first | (with_reducible first | refine G_region fun K E hK hE => ?_ | refine call_ret can21 (Sscope_no _ p b1 b2 x r (HP.out.fg (Fg.of_set _ (by assumption))) HBL.out e HSC.out) ?_ | refine W_if ?_ | refine W_ifS ?_ | refine W_and ?_) | ((with_reducible refine W_fresh (fun b hb => ?_)); (repeat (obtain ⟨_, hb⟩ := hb)); (try (obtain ⟨_, _⟩ := nef hb hSbf)))) <;> (try simp (disch := first | assumption | omega) only [go_sem, seval, hlen, hsx, rulC, *]))))
          all_goals (first | refine W_ret res17 hQ ?_ | refine W_norm res17 hQ ?_ | refine G_pan hQ ?_)
          rw [HZ.out]
          exact ⟨_, t, Wk.tupL (by (repeat (first | exact WkL.nil | apply WkL.nostrs | apply WkL.nosts | apply WkL.same | apply WkL.lst))), (Fg.of_set _ (by assumption)).trans HF.out, .raw (.pointer none), rfl, Fg.refl _, fun h => absurd h hen⟩
        | ok Y =>
          rw [hsc] at hI
          simp only at hI
          have HI2 := Lib.hid hI
          have HSC := Lib.hid hsc
          clear hI hsc HI
          (repeat' (first | refine Ctl ?_ | ((with_reducible refine Kof.use hK ?_); clear hK hE K E) | ((with_reducible refine Eof.use hE ?_); (try clear hK hE K E)) | ((with_reducible refine W_cond (fun h => ?_) (fun h => ?_)) <;> (try (exfalso; first | assumption | omega))) | ((first | (with_reducible first | refine G_region fun K E hK hE => ?_ | refine W_if ?_ | refine W_ifS ?_ | refine W_and ?_) | ((with_reducible refine call_ex can21 (Sscope_ok _ p b1 b2 x r (HP.out.fg (Fg.of_set _ (by assumption))) HBL.out Y HSC.out) (fun a h => ?_))) | ((with_reducible refine W_fresh (fun b hb => ?_)); (repeat (obtain ⟨_, hb⟩ := hb)); (try (obtain ⟨_, _⟩ := nef hb hSbf)))) <;> (try simp (disch := first | assumption | omega) only [go_sem, seval, hlen, hsx, rulC, *]))))
          rename_i hq
          exact ⟨s', GS.of_fg (hq.trans (Fg.of_set _ hb)), m - 1, by omega, i + 1, by omega, by omega, HI2, rfl, z_sl, z_sl, z_sl, z_sl⟩
      · have hie : i = x.rules.length := by omega
        have hI := HI.out
        rw [hie, List.drop_length] at hI
        simp only [badR] at hI
        have HB := Lib.hid hI
        have hZ := HS.out
        rw [hI] at hZ
        simp only at hZ
        clear hI HS HI
        cases hst : stgP x with
        | none =>
          rw [hst] at hZ
          have HZ := Lib.hid hZ
          have HST := Lib.hid hst
          clear hZ hst
          (repeat' (first | refine Ctl ?_ | ((with_reducible refine Kof.use hK ?_); clear hK hE K E) | ((with_reducible refine Eof.use hE ?_); (try clear hK hE K E)) | ((with_reducible refine W_cond (fun h => ?_) (fun h => ?_)) <;> (try (exfalso; first | assumption | omega))) | ((first | (with_reducible first | refine G_region fun K E hK hE => ?_ | refine call_ret can24 (Sstrata_no _ p b1 b2 x HP.out hdl hrl HBD.out HB.out HST.out) ?_ | refine W_if ?_ | refine W_ifS ?_ | refine W_and ?_) | ((with_reducible refine W_fresh (fun b hb => ?_)); (repeat (obtain ⟨_, hb⟩ := hb)))) <;> (try simp (disch := first | assumption | omega) only [go_sem, seval, hlen, *]))))
          all_goals (first | refine W_ret res17 hQ ?_ | refine W_norm res17 hQ ?_ | refine G_pan hQ ?_)
          rw [HZ.out]
          exact ⟨_, t, Wk.tupL (by (repeat (first | exact WkL.nil | apply WkL.nostrs | apply WkL.nosts | apply WkL.same | apply WkL.lst))), HF.out, .raw (.pointer none), rfl, Fg.refl _, fun h => absurd h (by decide)⟩
        | some l =>
          rw [hst] at hZ
          have HZ := Lib.hid hZ
          have HST := Lib.hid hst
          clear hZ hst
          (repeat' (first | refine Ctl ?_ | ((with_reducible refine Kof.use hK ?_); clear hK hE K E) | ((with_reducible refine Eof.use hE ?_); (try clear hK hE K E)) | ((with_reducible refine W_cond (fun h => ?_) (fun h => ?_)) <;> (try (exfalso; first | assumption | omega))) | ((first | (with_reducible first | refine G_region fun K E hK hE => ?_ | refine call_ret can24 (Sstrata_ok _ p b1 b2 x HP.out hdl hrl HBD.out HB.out l HST.out) ?_ | refine W_if ?_ | refine W_ifS ?_ | refine W_and ?_) | ((with_reducible refine W_fresh (fun b hb => ?_)); (repeat (obtain ⟨_, hb⟩ := hb)))) <;> (try simp (disch := first | assumption | omega) only [go_sem, seval, hlen, *]))))
          all_goals (first | refine W_ret res17 hQ ?_ | refine W_norm res17 hQ ?_ | refine G_pan hQ ?_)
          rw [HZ.out]
          exact ⟨_, s', Wk.refl _, Fg.refl _, .ptr p 0, rfl, HF.out, fun _ => ⟨p, b1, b2, rfl, HP.out⟩⟩
  · have hs : soundP x = (-1, readE x, []) := by unfold soundP; rw [if_pos hr]
    rw [hs]
    have w1 := fun s => Sread_no x s hx hr
    have HRN := Lib.hid hr
    clear hs
    generalize readE x = e at *
    simp only [pgC] at w1 ⊢
    refine G_enter Tryz.func17 rfl Tryz.ntmps17 rfl fun Q hQ hQe => ?_
    (repeat' (first | refine Ctl ?_ | ((with_reducible refine Kof.use hK ?_); clear hK hE K E) | ((with_reducible refine Eof.use hE ?_); (try clear hK hE K E)) | ((with_reducible refine W_cond (fun h => ?_) (fun h => ?_)) <;> (try (exfalso; first | assumption | omega))) | ((first | (with_reducible first | refine G_region fun K E hK hE => ?_ | refine call_ret can23 (w1 _) ?_ | refine W_if ?_ | refine W_ifS ?_ | refine W_and ?_) | ((with_reducible refine W_fresh (fun b hb => ?_)); (repeat (obtain ⟨_, hb⟩ := hb)))) <;> (try simp (disch := first | assumption | omega) only [go_sem, seval, *]))))
    all_goals (first | refine W_ret res17 hQ ?_ | refine W_norm res17 hQ ?_ | refine G_pan hQ ?_)
    exact ⟨_, t, Wk.tupL (by (repeat (first | exact WkL.nil | apply WkL.nostrs | apply WkL.nosts | apply WkL.same | apply WkL.lst))), Fg.of_set _ hb, .raw (.pointer none), rfl, Fg.refl _, fun h => absurd h HRN.out⟩
theorem Sall_S (x : Pgm) (hx : PgmOk x) (t : St) :
    SCalls Tryz.prog 17 [.agg (pgC x)] t fun w u => ∃ P : VV, w = .ret (.tup [P, .lst (intsL (List.map (fun n : Nat => (n : Int)) (soundP x).2.2)) .no, .int .i64 (soundP x).1, .int .i64 (soundP x).2.1]) ∧ u = t ∧ True :=
  SCalls.gs ((SallP_S x hx t).mono fun w u ⟨P, h1, h2, _⟩ => ⟨t, GS.of_fg h2, P, h1, rfl, trivial⟩)
set_option maxHeartbeats 2000000 in
theorem Scheck_S (x : Pgm) (hx : PgmOk x) (t : St) : SRet Tryz.prog 7 [.agg (pgC x)] t (.tup [.int .i64 (soundP x).1, .int .i64 (soundP x).2.1]) t := by
  have w1 := fun s => Sall_S x hx s
  generalize soundP x = Z at *
  simp only [pgC] at w1 ⊢
  refine G_enter Tryz.func7 rfl Tryz.ntmps7 rfl fun Q hQ hQe => ?_
  (repeat' (first | refine Ctl ?_ | ((with_reducible refine Kof.use hK ?_); clear hK hE K E) | ((with_reducible refine Eof.use hE ?_); (try clear hK hE K E)) | ((with_reducible refine W_cond (fun h => ?_) (fun h => ?_)) <;> (try (exfalso; first | assumption | omega))) | ((first | (with_reducible first | refine G_region fun K E hK hE => ?_ | refine W_if ?_ | refine W_ifS ?_ | refine W_and ?_) | ((with_reducible refine call_ex can17 (w1 _) (fun a h => ?_))) | ((with_reducible refine W_fresh (fun b hb => ?_)); (repeat (obtain ⟨_, hb⟩ := hb)))) <;> (try simp (disch := first | assumption | omega) only [go_sem, seval, *]))))
  all_goals (first | refine W_ret res7 hQ ?_ | refine W_norm res7 hQ ?_ | refine G_pan hQ ?_)
  all_goals (refine ⟨_, _, Wk.of_eq ?_, ?_, rfl, rfl⟩)
  all_goals (exact z_fg)
set_option maxHeartbeats 2000000 in
theorem Sstr_S (x : Pgm) (hx : PgmOk x) (t : St) : SRet Tryz.prog 9 [.agg (pgC x)] t (.tup [.lst (intsL (List.map (fun n : Nat => (n : Int)) (soundP x).2.2)) .no, .int .i64 (soundP x).2.1]) t := by
  have w1 := fun s => Sall_S x hx s
  generalize soundP x = Z at *
  simp only [pgC] at w1 ⊢
  refine G_enter Tryz.func9 rfl Tryz.ntmps9 rfl fun Q hQ hQe => ?_
  (repeat' (first | refine Ctl ?_ | ((with_reducible refine Kof.use hK ?_); clear hK hE K E) | ((with_reducible refine Eof.use hE ?_); (try clear hK hE K E)) | ((with_reducible refine W_cond (fun h => ?_) (fun h => ?_)) <;> (try (exfalso; first | assumption | omega))) | ((first | (with_reducible first | refine G_region fun K E hK hE => ?_ | refine W_if ?_ | refine W_ifS ?_ | refine W_and ?_) | ((with_reducible refine call_ex can17 (w1 _) (fun a h => ?_))) | ((with_reducible refine W_fresh (fun b hb => ?_)); (repeat (obtain ⟨_, hb⟩ := hb)))) <;> (try simp (disch := first | assumption | omega) only [go_sem, seval, *]))))
  all_goals (first | refine W_ret res9 hQ ?_ | refine W_norm res9 hQ ?_ | refine G_pan hQ ?_)
  all_goals (refine ⟨_, _, Wk.of_eq ?_, ?_, rfl, rfl⟩)
  all_goals (exact z_fg)
end Go.Proofs.YtdibndmkeipgbaaGreatDoor
