/- What is proved: Atoms, as they are read. Conditions: those that stand in the statements. -/
import Derived.Test.YtbfgdblebepgcaaDoorZUc
set_option linter.unusedSimpArgs false
set_option linter.unusedVariables false
set_option maxRecDepth 100000
namespace Go.Proofs.YtbfgdblebepgcaaDoor
open Go.RowKit
attribute [local go_sem] Ru_at Ru_mk2 Ru_free Ru_set Ru_gt Ru_dis Ru_own Ru_ok Ru_ownd

theorem uatoml_S (s : St) (r e b b2 : Nat) (nt : Bool) (rel : List UInt8) (ow : Own) (L : List Sgn) (hG : GoodU L) (hL : L.length ≤ 50000) (hb : s b = .free) (n1 : ¬ b = r) (n2 : ¬ b2 = b) (n3 : ¬ b2 = r) (h2 : s b2 = .obj 69 [.ptr r 0]) :
    SCalls Tryd.prog 46 [.ptr r 0, .fn 81 [.ptr b 0, .ptr b2 0], .lst [[.int .i64 1], [.int .i64 2]] ow] (Ru (s.set b (.obj 49 [.bool nt, .str rel, .lst [] .full])) r e L)
      (PQ (fun _ => .tup []) (fun xs L o' => Ru (Am s b nt rel xs o') r e L) (fun xs _ o' => AmC s b r b2 xs o') (fun L => Ru s r e L) (listU e (termU e) [1, 2] L)) :=
  ulist_S (fun ts o => Am s b nt rel ts o) (AmC s b r b2) s r e (termU e) 81 [.ptr b 0, .ptr b2 0] [1, 2] ow (by decide) can81
    (fun ts o L hC hG hl => uone_S s r e b b2 nt rel hb n1 n2 n3 h2 ts o L hC hG hl) (fun L x L' h => termU_sub h)
    (fun ts o hC => (Fg.of_set _ (by rw [own_rd hC.2.1]; exact hb)).trans (Fg.own hC.1)) .full ⟨rfl, trivial, trivial, trivial⟩ L hG hL
set_option maxHeartbeats 2000000 in
theorem uatom_S (s : St) (r e : Nat) (L : List Sgn) (nt : Bool) (hG : GoodU L) (hL : L.length ≤ 50000) : SCalls Tryd.prog 69 [.ptr r 0, .bool nt] (Ru s r e L) (PW (fun a => .agg (atmC a)) s r e (atomU e L nt)) := by
  have h1 := fun s => uname_S s r e L
  generalize hres : atomU e L nt = res
  unfold atomU at hres
  cases hr : nameU e L with
  | error q =>
    rw [hr] at h1 hres
    have HR := Lib.hid hres
    clear hr hres
    refine G_enter Tryd.func69 rfl Tryd.ntmps69 rfl fun Q hQ hQe => ?_
    (repeat' (first
      | with_reducible first | refine L_seq ?_ | refine L_blk ?_ | refine L_skip ?_ | refine L_endblk ?_ | refine L_ret ?_ | refine L_exit ?_ | refine X_code ?_ | refine X_back ?_ | refine X_blk ?_ | refine X_past (by decide) ?_ | refine L_back ?_
      | ((with_reducible refine Kof.use hK ?_); clear hK hE K E)
      | ((with_reducible refine Eof.use hE ?_); (try clear hK hE K E))
      | ((with_reducible refine W_cond (fun h => ?_) (fun h => ?_)) <;> (try (exfalso; first | assumption | omega)))
      | ((with_reducible first | refine G_region fun K E hK hE => ?_ | refine W_if ?_ | refine W_ifS ?_ | refine W_and ?_) <;> (try simp (disch := first | assumption | omega) only [go_sem, seval, *]))
      | ((with_reducible refine call_pw can44 (h1 _) (fun a Lx h => ?_) (fun at_ er Lx h => ?_)) <;> (try simp (disch := first | assumption | omega) only [go_sem, seval, *]))
      | ((with_reducible refine call_pw can44 (uname_S _ _ _ _) (fun a Lx h => ?_) (fun at_ er Lx h => ?_)) <;> (try simp (disch := first | assumption | omega) only [go_sem, seval, *]))
      | ((with_reducible refine W_fresh (fun b hb => ?_)); (repeat (obtain ⟨_, hb⟩ := hb)); (try simp (disch := first | assumption | omega) only [go_sem, seval, *]))
      | ((with_reducible refine W_app (fun o2 ho => ?_)); (repeat (obtain ⟨_, ho⟩ := ho)); (try simp (disch := first | assumption | omega) only [go_sem, seval, *]))
      | ((with_reducible refine W_gd (fun h => ?_) (fun h => ?_)) <;> (try (exfalso; first | assumption | omega)) <;> (try simp (disch := first | assumption | omega) only [go_sem, seval, *]))))
    all_goals first
      | (cases h; done)
      | (refine G_pan hQ ?_
         cases h
         exact ⟨Ru s r e _, by ((try dsimp only); (repeat (first | exact Fg.refl _ | exact Fg.own (by assumption) | (refine Fg.set ?_ _ _) | (refine Fg.setA ?_ (by first | assumption | (simp (disch := assumption) only [own_rd, St.set, if_false, if_true, *]; done))) )); done), by rw [← show _ = res from HR]; exact ⟨rfl, _, rfl⟩⟩)
  | ok q =>
    obtain ⟨rel, L1⟩ := q
    obtain ⟨hs1, hs2⟩ := nameU_sub hr
    have hG1 : GoodU L1 := hG.sub hs2
    have hL1 : L1.length ≤ 50000 := by omega
    rw [hr] at h1 hres
    rw [bu_ok] at hres
    have h1r := fun s => (h1 s).ret
    clear h1 hr hs2
    refine G_enter Tryd.func69 rfl Tryd.ntmps69 rfl fun Q hQ hQe => ?_
    (repeat' (first
      | with_reducible first | refine L_seq ?_ | refine L_blk ?_ | refine L_skip ?_ | refine L_endblk ?_ | refine L_ret ?_ | refine L_exit ?_ | refine X_code ?_ | refine X_back ?_ | refine X_blk ?_ | refine X_past (by decide) ?_ | refine L_back ?_
      | ((with_reducible refine Kof.use hK ?_); clear hK hE K E)
      | ((with_reducible refine Eof.use hE ?_); (try clear hK hE K E))
      | ((with_reducible refine W_cond (fun h => ?_) (fun h => ?_)) <;> (try (exfalso; first | assumption | omega)))
      | ((with_reducible first | refine G_region fun K E hK hE => ?_ | refine call_ret can44 (h1r _) ?_ | refine W_if ?_ | refine W_ifS ?_ | refine W_and ?_) <;> (try simp (disch := first | assumption | omega) only [go_sem, seval, Am, *]))
      | ((with_reducible refine call_pq can46 (uatoml_S _ _ _ _ _ _ _ _ _ hG1 hL1 (by simp (disch := first | assumption | omega) only [go_sem, seval, *]) (by assumption) (by assumption) (by assumption) (by simp (disch := first | assumption | omega) only [go_sem, seval, *])) (fun a Lx ix h hc => ?_) (fun at_ er Lx h => ?_)) <;> (try (obtain ⟨hO, hcb, hcr, hcb2⟩ := hc; simp (disch := assumption) only [ownok_o] at hO; obtain ⟨hq4, hq2, hO⟩ := hO)) <;> (try simp (disch := first | assumption | omega) only [go_sem, seval, Am, *]))
      | ((with_reducible refine call_pw can44 (uname_S _ _ _ _) (fun a Lx h => ?_) (fun at_ er Lx h => ?_)) <;> (try (obtain ⟨hO, hcb, hcr, hcb2⟩ := hc; simp (disch := assumption) only [ownok_o] at hO; obtain ⟨hq4, hq2, hO⟩ := hO)) <;> (try simp (disch := first | assumption | omega) only [go_sem, seval, Am, *]))
      | ((with_reducible refine W_fresh (fun b hb => ?_)); (repeat (obtain ⟨_, hb⟩ := hb)); (try simp (disch := first | assumption | omega) only [go_sem, seval, Am, *]))
      | ((with_reducible refine W_app (fun o2 ho => ?_)); (try simp (disch := assumption) only [disown_set, disown_own, ownok_o, ownok_m, List.length_map, List.length_cons, List.length_nil, Nat.zero_add, Am] at ho); (repeat (obtain ⟨_, ho⟩ := ho)); (try simp (disch := first | assumption | omega) only [go_sem, seval, Am, *]))
      | ((with_reducible refine W_gd (fun h => ?_) (fun h => ?_)) <;> (try (exfalso; first | assumption | omega)) <;> (try simp (disch := first | assumption | omega) only [go_sem, seval, Am, *]))))
    · (first | refine G_ret hQ (by simp (disch := first | assumption | omega) only [res69, go_sem, seval, *] <;> rfl) ?_ | refine G_norm hQ (by simp (disch := first | assumption | omega) only [res69, go_sem, seval, *] <;> rfl) ?_ | refine G_pan hQ ?_)
      refine ⟨.agg (atmC ⟨nt, rel, a⟩), Ru s r e Lx, Wk.agg ?_, ?_, by rw [← hres, h, bu_ok]; exact ⟨rfl, rfl⟩⟩
      · simp only [atmC]; (repeat (first | exact WkL.nil | apply WkL.nostrs | apply WkL.nosts | apply WkL.same | apply WkL.lst))
      · refine Fg.ru ?_
        ((try dsimp only); (repeat (first | exact Fg.refl _ | exact Fg.own (by assumption) | (refine Fg.set ?_ _ _) | (refine Fg.setA ?_ (by first | assumption | (simp (disch := assumption) only [own_rd, St.set, if_false, if_true, *]; done))) )); done)
    · refine G_pan hQ ?_
      exact ⟨Ru s r e Lx, by refine Fg.ru ?_; ((try dsimp only); (repeat (first | exact Fg.refl _ | exact Fg.own (by assumption) | (refine Fg.set ?_ _ _) | (refine Fg.setA ?_ (by first | assumption | (simp (disch := assumption) only [own_rd, St.set, if_false, if_true, *]; done))) )); done), by rw [← hres, h, bu_err]; exact ⟨rfl, _, rfl⟩⟩
end Go.Proofs.YtbfgdblebepgcaaDoor
