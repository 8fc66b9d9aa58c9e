/- What is proved: An item of a program, as it is read. Conditions: those that stand in the statements. -/
import Derived.Test.YtbfgdblebepgcaaDoorZUf
set_option linter.unusedSimpArgs false
set_option linter.unusedVariables false
set_option maxRecDepth 100000
namespace Go.Proofs.YtbfgdblebepgcaaDoor
open Go.RowKit
attribute [local go_sem] Ru_at Ru_mk2 Ru_free Ru_set Ru_gt Ru_dis Ru_own Ru_ok Ru_ownd

theorem roomU_good {e hv m : Nat} {L L' : List Sgn} {b : Bool} {u : Unit} (h : roomU e L hv m b = .ok (u, L')) (hG : GoodU L) (hl : L.length ≤ 40000) : GoodU L' ∧ L'.length ≤ 40000 := by
  obtain rfl := roomU_inv h; exact ⟨hG, hl⟩
theorem mustU_good {e : Nat} {L L' : List Sgn} {t : List UInt8} {u : Unit} (h : mustU e L t = .ok (u, L')) (hG : GoodU L) (hl : L.length ≤ 40000) : GoodU L' ∧ L'.length ≤ 40000 := by
  obtain ⟨rfl, _, h1⟩ := mustU_inv h
  exact ⟨hG.tail, by omega⟩
theorem nameU_good {e : Nat} {L L' : List Sgn} {t : List UInt8} (h : nameU e L = .ok (t, L')) (hG : GoodU L) (hl : L.length ≤ 40000) : GoodU L' ∧ L'.length ≤ 40000 := by
  obtain ⟨h1, h2⟩ := nameU_sub h
  exact ⟨hG.sub h2, by omega⟩
theorem numU_good {e : Nat} {L L' : List Sgn} {z : Nat} (h : numU e L = .ok (z, L')) (hG : GoodU L) (hl : L.length ≤ 40000) : GoodU L' ∧ L'.length ≤ 40000 := by
  unfold numU at h
  cases h1 : kindU e L 2 with
  | error q => rw [h1] at h; cases h
  | ok q =>
    obtain ⟨t, L1⟩ := q
    rw [h1] at h; simp only [bu_ok] at h; injection h with h; injection h with _ h; subst h
    obtain ⟨h1, h2⟩ := nameU_sub h1
    exact ⟨hG.sub h2, by omega⟩
theorem room32_S (s : St) (r e : Nat) (L : List Sgn) (hv : Nat) (b : Bool) : SCalls Tryd.prog 42 [.ptr r 0, .int .i64 hv, .int .i64 32, .bool b] (Ru s r e L) (PW unitV s r e (roomU e L hv 32 b)) := uroom_S s r e L hv 32 b
theorem room64_S (s : St) (r e : Nat) (L : List Sgn) (hv : Nat) (b : Bool) : SCalls Tryd.prog 42 [.ptr r 0, .int .i64 hv, .int .i64 64, .bool b] (Ru s r e L) (PW unitV s r e (roomU e L hv 64 b)) := uroom_S s r e L hv 64 b
/-- What reading an item comes to. -/
abbrev PI (s : St) (p r e : Nat) (x : PU Pgm) : SEnd → St → Prop := PQ (ι := Unit) (κ := Pgm × List Sgn) (fun _ => .tup []) (fun y L _ => Pg s p r e y L) (fun _ _ _ => True) (fun q => Pg s p r e q.1 q.2) x
theorem Pg_at {s : St} {p r e : Nat} {x : Pgm} {L : List Sgn} (hpr : ¬ p = r) : (Pg s p r e x L) p = .pk 26 (pgC x) rsP := (Ru_gt hpr).trans (St.set_same _ _ _)
set_option maxHeartbeats 4000000 in
theorem udomi_S (s : St) (p r e : Nat) (x : Pgm) (L : List Sgn) (hG : GoodU L) (hl : L.length ≤ 40000) (hpr : ¬ p = r) (hx : x.doms.length ≤ 40000) (hd : isT L 0 [100, 111, 109] = true) :
    SCalls Tryd.prog 25 [.ptr r 0, .ptr p 0] (Pg s p r e x L) (PI s p r e (domU e x L)) := by
  have h1 := fun s => uis_S s r e L [100, 111, 109]
  rw [hd] at h1
  clear hd
  have hm : (x.doms.map dmC).length = x.doms.length := by simp
  generalize hres : domU e x L = res
  unfold domU at hres
  have HR := Lib.hid hres
  clear hres
  refine SCalls.gs ?_
  refine G_enter Tryd.func25 rfl Tryd.ntmps25 rfl fun Q hQ hQe => ?_
  refine Kp_unpk p 0 (T' := 44) (sz := 2) [(1, 46, 2), (2, 52, 4)] (Pg_at hpr) rfl (by simp) (by simp) ?_
  intro o hO hop
  have hor : NotOwn o r := hO.not (by simp only [Pg, Ru_at]; simp)
  simp only [Pg]
  rw [Ru_unpk hpr hop hor]
  simp only [Pg, Ru_ok, ownok_pk, hm, pgC, List.set] at hO ⊢
  obtain ⟨_, _, hO⟩ := hO
  (repeat' (first
    | with_reducible first | refine L_seq ?_ | refine L_blk ?_ | refine L_skip ?_ | refine L_endblk ?_ | refine L_ret ?_ | refine L_exit ?_ | refine X_code ?_ | refine X_back ?_ | refine X_blk ?_ | refine X_past (by decide) ?_ | refine L_back ?_
    | ((with_reducible refine Kof.use hK ?_); clear hK hE K E)
    | ((with_reducible refine Eof.use hE ?_); (try clear hK hE K E))
    | ((with_reducible refine Kof.use hKh ?_); clear hKh Kh)
    | ((with_reducible refine Kof.use hKb (P_next ?_)); clear hKb Kb)
    | with_reducible first | refine G_plan 4 [([0, 1, 2, 3, 4, 5], 6, [[]])] [] hQe fun K E hK hE => ?_ | refine G_plan 6 [([0, 1, 2, 3, 4, 5, 7], 6, [[0, 1, 2, 3, 4, 7]]), ([], 8, [[], [0, 1, 2, 3, 4]]), ([9, 10], 11, [[], [], [0]]), ([12, 13], 14, [[], [], [], []])] [] hQe fun K E hK hE => ?_ | refine G_plan 9 [([0, 1, 2, 3, 4, 5], 6, [[]])] [] hQe fun K E hK hE => ?_ | refine G_plan 14 [([0, 1, 2, 3, 4, 5, 6], 7, [[0]]), ([8, 9], 10, [[], []])] [] hQe fun K E hK hE => ?_ | refine G_plan 1 [([0, 1, 2, 3, 4, 5, 6, 7], 8, [[0, 1, 2, 3, 4, 5]]), ([], 9, [[], []])] [] hQe fun K E hK hE => ?_ | refine G_plan 2 [([0, 1, 2, 3, 4, 5], 6, [[0, 1, 2, 3, 4]]), ([7], 8, [[], [0]]), ([9, 10], 11, [[], [], []])] [] hQe fun K E hK hE => ?_
    | ((with_reducible refine W_cond (fun h => ?_) (fun h => ?_)) <;> (try (exfalso; first | assumption | omega)))
    | ((with_reducible first | refine G_region fun K E hK hE => ?_ | refine call_ret can41 (h1 _) ?_ | refine call_ret can41 (uis_S _ _ _ _ _) ?_ | refine call_ret can48 (unext_S _ _ _ _ _ _ (by first | assumption | omega | decide)) ?_ | refine W_if ?_ | refine W_ifS ?_ | refine P_heads fun Kh hKh => ?_ | refine P_fin fun Kh hKh => ?_ | refine P_each fun Kb hKb => ?_ | refine W_and ?_) <;> (try simp (disch := first | assumption | omega) only [go_sem, seval, hm, dmC, Ru_ok, Ru_dis, Ru_own, Ru_ownd, ownok_pk, or_true, if_true, *]))
    | ((with_reducible refine call_pw can42 (room32_S _ _ _ _ _ _) (fun a Lx h => ?_) (fun at_ er Lx h => ?_)) <;> (try (first | have hGx := roomU_good h (by assumption) (by assumption) | have hGx := mustU_good h (by assumption) (by assumption) | (have hGx := nameU_good h (by assumption) (by assumption); generalize a = nm at *) | (have hGx := numU_good h (by assumption) (by assumption); generalize a = z at *)); try (obtain ⟨hGy, hGl⟩ := hGx)) <;> (try simp (disch := first | assumption | omega) only [go_sem, seval, hm, dmC, Ru_ok, Ru_dis, Ru_own, Ru_ownd, ownok_pk, or_true, if_true, *]))
    | ((with_reducible refine call_pw can43 (umust_S _ _ _ _ _) (fun a Lx h => ?_) (fun at_ er Lx h => ?_)) <;> (try (first | have hGx := roomU_good h (by assumption) (by assumption) | have hGx := mustU_good h (by assumption) (by assumption) | (have hGx := nameU_good h (by assumption) (by assumption); generalize a = nm at *) | (have hGx := numU_good h (by assumption) (by assumption); generalize a = z at *)); try (obtain ⟨hGy, hGl⟩ := hGx)) <;> (try simp (disch := first | assumption | omega) only [go_sem, seval, hm, dmC, Ru_ok, Ru_dis, Ru_own, Ru_ownd, ownok_pk, or_true, if_true, *]))
    | ((with_reducible refine call_pw can42 (uroom_S _ _ _ _ _ _ _) (fun a Lx h => ?_) (fun at_ er Lx h => ?_)) <;> (try (first | have hGx := roomU_good h (by assumption) (by assumption) | have hGx := mustU_good h (by assumption) (by assumption) | (have hGx := nameU_good h (by assumption) (by assumption); generalize a = nm at *) | (have hGx := numU_good h (by assumption) (by assumption); generalize a = z at *)); try (obtain ⟨hGy, hGl⟩ := hGx)) <;> (try simp (disch := first | assumption | omega) only [go_sem, seval, hm, dmC, Ru_ok, Ru_dis, Ru_own, Ru_ownd, ownok_pk, or_true, if_true, *]))
    | ((with_reducible refine call_pw can44 (uname_S _ _ _ _) (fun a Lx h => ?_) (fun at_ er Lx h => ?_)) <;> (try (first | have hGx := roomU_good h (by assumption) (by assumption) | have hGx := mustU_good h (by assumption) (by assumption) | (have hGx := nameU_good h (by assumption) (by assumption); generalize a = nm at *) | (have hGx := numU_good h (by assumption) (by assumption); generalize a = z at *)); try (obtain ⟨hGy, hGl⟩ := hGx)) <;> (try simp (disch := first | assumption | omega) only [go_sem, seval, hm, dmC, Ru_ok, Ru_dis, Ru_own, Ru_ownd, ownok_pk, or_true, if_true, *]))
    | ((with_reducible refine call_pw can45 (unum_S _ _ _ _ (by assumption)) (fun a Lx h => ?_) (fun at_ er Lx h => ?_)) <;> (try (first | have hGx := roomU_good h (by assumption) (by assumption) | have hGx := mustU_good h (by assumption) (by assumption) | (have hGx := nameU_good h (by assumption) (by assumption); generalize a = nm at *) | (have hGx := numU_good h (by assumption) (by assumption); generalize a = z at *)); try (obtain ⟨hGy, hGl⟩ := hGx)) <;> (try simp (disch := first | assumption | omega) only [go_sem, seval, hm, dmC, Ru_ok, Ru_dis, Ru_own, Ru_ownd, ownok_pk, or_true, if_true, *]))
    | ((with_reducible refine call_pw can49 (urule_S _ _ _ _ (by assumption) (by first | assumption | omega)) (fun a Lx h => ?_) (fun at_ er Lx h => ?_)) <;> (try (first | have hGx := roomU_good h (by assumption) (by assumption) | have hGx := mustU_good h (by assumption) (by assumption) | (have hGx := nameU_good h (by assumption) (by assumption); generalize a = nm at *) | (have hGx := numU_good h (by assumption) (by assumption); generalize a = z at *)); try (obtain ⟨hGy, hGl⟩ := hGx)) <;> (try simp (disch := first | assumption | omega) only [go_sem, seval, hm, dmC, Ru_ok, Ru_dis, Ru_own, Ru_ownd, ownok_pk, or_true, if_true, *]))
    | ((with_reducible refine W_fresh (fun b hb => ?_)); (repeat (obtain ⟨_, hb⟩ := hb)); (try (try (rw [own_fr] at hb; obtain ⟨hob, hb⟩ := hb))); (try simp (disch := first | assumption | omega) only [go_sem, seval, hm, dmC, Ru_ok, Ru_dis, Ru_own, Ru_ownd, ownok_pk, or_true, if_true, *]))
    | ((with_reducible refine W_app (fun o2 ho => ?_)); (try simp (disch := assumption) only [disown_set, disown_own, ownok_o, ownok_m, List.length_map, List.length_cons, List.length_nil, Nat.zero_add, hm, dmC, Ru_ok, Ru_dis, Ru_own, Ru_ownd, ownok_pk, or_true, if_true] at ho); (repeat (obtain ⟨_, ho⟩ := ho)); (try simp (disch := first | assumption | omega) only [go_sem, seval, hm, dmC, Ru_ok, Ru_dis, Ru_own, Ru_ownd, ownok_pk, or_true, if_true, *]))
    | ((with_reducible refine W_gd (fun h => ?_) (fun h => ?_)) <;> (try (exfalso; first | assumption | omega)) <;> (try simp (disch := first | assumption | omega) only [go_sem, seval, hm, dmC, Ru_ok, Ru_dis, Ru_own, Ru_ownd, ownok_pk, or_true, if_true, *]))))
  all_goals first
    | (refine G_pan hQ ?_
       refine ⟨Ru ((s.own o2 44 2 (x.doms.length + 1)).set p (.pk 26 [.lst (x.doms.map dmC ++ [dmC ⟨nm, z⟩]) o2, .lst (x.decls.map dclC) .no, .lst (x.rules.map rulC) .no] [(1, 46, 2), (2, 52, 4)])) r e Lx, by simp only [dmC]; ((try dsimp only); (repeat (first | exact Fg.refl _ | exact Fg.own (by assumption) | (refine Fg.set ?_ _ _) | (refine Fg.setA ?_ (by first | assumption | (simp (disch := assumption) only [own_rd, St.set, if_false, if_true, *]; done))) )); done), Pg s p r e ⟨x.doms ++ [⟨nm, z⟩], x.decls, x.rules⟩ Lx,
         Ru_pack hpr (by assumption) (by assumption) ho (by simp) (i := 0) rfl (by simp [pgC]) (by simp), ?_⟩
       rw [← show _ = res from HR]
       simp only [bu_ok, bu_err, *]
       exact ⟨rfl, (⟨x.doms ++ [⟨nm, z⟩], x.decls, x.rules⟩, Lx), rfl⟩)
    | (refine G_pan hQ ?_
       refine ⟨Ru ((s.own o 44 2 x.doms.length).set p (.pk 26 [.lst (x.doms.map dmC) o, .lst (x.decls.map dclC) .no, .lst (x.rules.map rulC) .no] [(1, 46, 2), (2, 52, 4)])) r e Lx, by ((try dsimp only); (repeat (first | exact Fg.refl _ | exact Fg.own (by assumption) | (refine Fg.set ?_ _ _) | (refine Fg.setA ?_ (by first | assumption | (simp (disch := assumption) only [own_rd, St.set, if_false, if_true, *]; done))) )); done), Pg s p r e x Lx,
         Ru_pack hpr hop hor hO hm (i := 0) rfl rfl (by simp), ?_⟩
       rw [← show _ = res from HR]
       simp only [bu_ok, bu_err, *]
       exact ⟨rfl, (x, Lx), rfl⟩)
    | ((first | refine G_ret hQ (by simp (disch := first | assumption | omega) only [res25, go_sem, seval, *] <;> rfl) ?_ | refine G_norm hQ (by simp (disch := first | assumption | omega) only [res25, go_sem, seval, *] <;> rfl) ?_ | refine G_pan hQ ?_)
       refine ⟨.tup [], Ru ((s.own o2 44 2 (x.doms.length + 1)).set p (.pk 26 [.lst (x.doms.map dmC ++ [dmC ⟨nm, z⟩]) o2, .lst (x.decls.map dclC) .no, .lst (x.rules.map rulC) .no] [(1, 46, 2), (2, 52, 4)])) r e Lx, Wk.refl _, by simp only [dmC]; ((try dsimp only); (repeat (first | exact Fg.refl _ | exact Fg.own (by assumption) | (refine Fg.set ?_ _ _) | (refine Fg.setA ?_ (by first | assumption | (simp (disch := assumption) only [own_rd, St.set, if_false, if_true, *]; done))) )); done), Pg s p r e ⟨x.doms ++ [⟨nm, z⟩], x.decls, x.rules⟩ Lx,
         Ru_pack hpr (by assumption) (by assumption) ho (by simp) (i := 0) rfl (by simp [pgC]) (by simp), ?_⟩
       rw [← show _ = res from HR]
       simp only [bu_ok, bu_err, *]
       exact ⟨rfl, (), rfl, trivial⟩)
    | skip
theorem listU_good {α : Type} {e : Nat} {one : List Sgn → PU α} {ks : List Int} (hone : ∀ L x L', one L = .ok (x, L') → L'.length < L.length ∧ ∀ y, y ∈ L' → y ∈ L) {L L' : List Sgn} {xs : List α} (h : listU e one ks L = .ok (xs, L')) (hG : GoodU L) (hl : L.length ≤ 40000) : GoodU L' ∧ L'.length ≤ 40000 := by
  obtain ⟨h1, h2⟩ := listU_sub hone h
  exact ⟨hG.sub h2, by omega⟩
end Go.Proofs.YtbfgdblebepgcaaDoor
