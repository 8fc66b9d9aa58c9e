/- What is proved: Lists of something, in brackets; atoms. Conditions: those that stand in the statements. -/
import Derived.Test.YtbfgdblebepgcaaDoorZUb
import Derived.Lib.Hide
set_option linter.unusedSimpArgs false
set_option linter.unusedVariables false
set_option maxRecDepth 100000
namespace Go.Proofs.YtbfgdblebepgcaaDoor
open Go.RowKit
attribute [local go_sem] Ru_at Ru_mk2 Ru_free Ru_set Ru_gt

def listGo {α : Type} (e : Nat) (one : List Sgn → PU α) (ks : List Int) : Nat → List α → List Sgn → PU (List α)
  | 0, _, _ => .error (0, 0)
  | f + 1, out, L => bu (roomU e L out.length 8 (nextB ks L)) fun _ L => bu (one L) fun x L => if isT L 0 [44] = true then listGo e one ks f (out ++ [x]) L.tail else .ok (out ++ [x], L)
def listU {α : Type} (e : Nat) (one : List Sgn → PU α) (ks : List Int) (L : List Sgn) : PU (List α) :=
  bu (mustU e L [40]) fun _ L => bu (listGo e one ks (L.length + 1) [] L) fun xs L => bu (mustU e L [41]) fun _ L => .ok (xs, L)
theorem mustU_inv {e : Nat} {L L' : List Sgn} {t : List UInt8} {u : Unit} (h : mustU e L t = .ok (u, L')) : L' = L.tail ∧ isT L 0 t = true ∧ L'.length < L.length := by
  unfold mustU at h
  split at h
  · rename_i hi
    injection h with h; injection h with _ h; subst h
    refine ⟨rfl, hi, ?_⟩
    cases L with
    | nil => simp [isT] at hi
    | cons x L => simp
  · cases h
theorem roomU_inv {e hv mst : Nat} {L L' : List Sgn} {b : Bool} {u : Unit} (h : roomU e L hv mst b = .ok (u, L')) : L' = L := by
  unfold roomU at h
  split at h
  · cases h
  · injection h with h; injection h with _ h; exact h.symm
theorem GoodU.tail {L : List Sgn} (h : GoodU L) : GoodU L.tail := fun x hx => h x (List.mem_of_mem_tail hx)
theorem GoodU.sub {L L' : List Sgn} (h : GoodU L) (hs : ∀ y, y ∈ L' → y ∈ L) : GoodU L' := fun x hx => h x (hs x hx)

set_option maxHeartbeats 2000000 in
theorem ulist_S {α : Type} (M : List α → Own → St) (Cn : List α → Own → Prop) (s : St) (r e : Nat) (one : List Sgn → PU α) (fc : FuncId) (caps : List VV) (ks : List Int) (ow : Own) (hks : ks.length ≤ 1000) (hcan : Callable Tryd.prog fc)
    (hone : ∀ ts o L, Cn ts o → GoodU L → ts.length ≤ 100000 → SCalls Tryd.prog fc caps (Ru (M ts o) r e L) (PQ (fun _ => .tup []) (fun x L o' => Ru (M (ts ++ [x]) o') r e L) (fun x _ o' => Cn (ts ++ [x]) o') (fun L => Ru s r e L) (one L)))
    (hsub : ∀ L x L', one L = .ok (x, L') → L'.length < L.length ∧ ∀ y, y ∈ L' → y ∈ L) (hfg : ∀ ts o, Cn ts o → Fg (M ts o) s)
    (o : Own) (hC : Cn [] o) (L : List Sgn) (hG : GoodU L) (hL : L.length ≤ 50000) :
    SCalls Tryd.prog 46 [.ptr r 0, .fn fc caps, .lst (intsV ks) ow] (Ru (M [] o) r e L) (PQ (fun _ => .tup []) (fun xs L o' => Ru (M xs o') r e L) (fun xs _ o' => Cn xs o') (fun L => Ru s r e L) (listU e one ks L)) := by
  have HS := Lib.hid hsub
  have HF := Lib.hid hfg
  clear hsub hfg
  generalize hres : listU e one ks L = res
  refine G_enter Tryd.func46 rfl Tryd.ntmps46 rfl fun Q hQ hQe => ?_
  have h1 := fun s => umust_S s r e L [40]
  unfold listU at hres
  cases hm : mustU e L [40] with
  | error q =>
    rw [hm] at h1 hres
    (repeat' (first
      | with_reducible first | refine L_seq ?_ | refine L_blk ?_ | refine L_skip ?_ | refine L_endblk ?_ | refine L_ret ?_ | refine L_exit ?_ | refine X_code ?_ | refine X_back ?_ | refine X_blk ?_ | refine X_past (by decide) ?_ | refine L_back ?_
      | ((with_reducible refine Kof.use hK ?_); clear hK hE K E)
      | ((with_reducible refine Eof.use hE ?_); (try clear hK hE K E))
      | ((with_reducible refine W_cond (fun h => ?_) (fun h => ?_)) <;> (try (exfalso; first | assumption | omega)))
      | ((with_reducible first | refine G_region fun K E hK hE => ?_ | refine call_ret can65 (ugiven_S _ _ _ _ _) ?_ | refine call_ret can48 (unext_S _ _ _ _ _ _ (by first | assumption | omega | decide)) ?_ | refine W_if ?_ | refine W_ifS ?_ | refine W_and ?_) <;> (try simp (disch := first | assumption | omega) only [go_sem, seval, *]))
      | ((with_reducible refine call_pw can43 (h1 _) (fun a Lx h => ?_) (fun at_ er Lx h => ?_)) <;> (try simp (disch := first | assumption | omega) only [go_sem, seval, *]))
      | ((with_reducible refine call_pw can43 (umust_S _ _ _ _ _) (fun a Lx h => ?_) (fun at_ er Lx h => ?_)) <;> (try simp (disch := first | assumption | omega) only [go_sem, seval, *]))
      | ((with_reducible refine call_pw can42 (uroom_S _ _ _ _ _ _ _) (fun a Lx h => ?_) (fun at_ er Lx h => ?_)) <;> (try simp (disch := first | assumption | omega) only [go_sem, seval, *]))
      | ((with_reducible refine W_fresh (fun b hb => ?_)); (repeat (obtain ⟨_, hb⟩ := hb)); (try simp (disch := first | assumption | omega) only [go_sem, seval, *]))
      | ((with_reducible refine W_app (fun o2 ho => ?_)); (repeat (obtain ⟨_, ho⟩ := ho)); (try simp (disch := first | assumption | omega) only [go_sem, seval, *]))
      | ((with_reducible refine W_gd (fun h => ?_) (fun h => ?_)) <;> (try (exfalso; first | assumption | omega)) <;> (try simp (disch := first | assumption | omega) only [go_sem, seval, *]))))
    all_goals first
      | (cases h; done)
      | (refine G_pan hQ ?_
         cases h
         exact ⟨_, (HF _ _ hC).ru, by rw [← hres]; exact ⟨rfl, _, rfl⟩⟩)
  | ok q =>
    obtain ⟨u, L1⟩ := q
    obtain ⟨hL1, _, hlen⟩ := mustU_inv hm
    have hG1 : GoodU L1 := by rw [hL1]; exact hG.tail
    rw [hm] at h1 hres
    rw [bu_ok] at hres
    have h1r := fun s => (h1 s).ret
    have HR := Lib.hid hres
    clear h1 hm hL1 hres
    (repeat' (first
      | with_reducible first | refine L_seq ?_ | refine L_blk ?_ | refine L_skip ?_ | refine L_endblk ?_ | refine L_ret ?_ | refine L_exit ?_ | refine X_code ?_ | refine X_back ?_ | refine X_blk ?_ | refine X_past (by decide) ?_ | refine L_back ?_
      | ((with_reducible refine Kof.use hK ?_); clear hK hE K E)
      | ((with_reducible refine Eof.use hE ?_); (try clear hK hE K E))
      | ((with_reducible refine W_cond (fun h => ?_) (fun h => ?_)) <;> (try (exfalso; first | assumption | omega)))
      | ((with_reducible first | refine G_region fun K E hK hE => ?_ | refine call_ret can43 (h1r _) ?_ | refine call_ret can65 (ugiven_S _ _ _ _ _) ?_ | refine call_ret can48 (unext_S _ _ _ _ _ _ (by first | assumption | omega | decide)) ?_ | refine W_if ?_ | refine W_ifS ?_ | refine W_and ?_) <;> (try simp (disch := first | assumption | omega) only [go_sem, seval, *]))
      | ((with_reducible refine call_pw can43 (umust_S _ _ _ _ _) (fun a Lx h => ?_) (fun at_ er Lx h => ?_)) <;> (try simp (disch := first | assumption | omega) only [go_sem, seval, *]))
      | ((with_reducible refine call_pw can42 (uroom_S _ _ _ _ _ _ _) (fun a Lx h => ?_) (fun at_ er Lx h => ?_)) <;> (try simp (disch := first | assumption | omega) only [go_sem, seval, *]))
      | ((with_reducible refine W_fresh (fun b hb => ?_)); (repeat (obtain ⟨_, hb⟩ := hb)); (try simp (disch := first | assumption | omega) only [go_sem, seval, *]))
      | ((with_reducible refine W_app (fun o2 ho => ?_)); (repeat (obtain ⟨_, ho⟩ := ho)); (try simp (disch := first | assumption | omega) only [go_sem, seval, *]))
      | ((with_reducible refine W_gd (fun h => ?_) (fun h => ?_)) <;> (try (exfalso; first | assumption | omega)) <;> (try simp (disch := first | assumption | omega) only [go_sem, seval, *]))))
    refine L_loop (fun m env s' => ∃ (ts : List α) (o' : Own) (L2 : List Sgn) (okb : Bool), Cn ts o' ∧ GoodU L2 ∧ L2.length < m ∧ ts.length + L2.length ≤ 50000 ∧ s' = Ru (M ts o') r e L2 ∧
      res = bu (if okb = true then listGo e one ks m ts L2 else .ok (ts, L2)) (fun xs L => bu (mustU e L [41]) fun _ L => .ok (xs, L)) ∧ env 0 = .ptr r 0 ∧ env 1 = .fn fc caps ∧ env 2 = .lst (intsV ks) ow ∧ env 6 = .int .i64 ts.length ∧ env 7 = .bool okb) (L1.length + 1)
      ⟨[], o, L1, true, hC, hG1, by omega, by simp; omega, rfl, HR.symm, by ((try simp (disch := first | assumption | omega) only [go_sem, seval, *]) <;> first | rfl | omega), by ((try simp (disch := first | assumption | omega) only [go_sem, seval, *]) <;> first | rfl | omega), by ((try simp (disch := first | assumption | omega) only [go_sem, seval, *]) <;> first | rfl | omega), by ((try simp (disch := first | assumption | omega) only [go_sem, seval, *]) <;> first | rfl | omega), by ((try simp (disch := first | assumption | omega) only [go_sem, seval, *]) <;> first | rfl | omega)⟩ ?_
    rintro m env s' ⟨ts, o', L2, okb, hC2, hG2, hm, hlen2, rfl, hgo, e0, e1, e2, e6, e7⟩
    clear HR h1r
    cases okb with
    | false =>
      rw [if_neg (by decide), bu_ok] at hgo
      have h3 := umust_S (M ts o') r e L2 [41]
      cases hm2 : mustU e L2 [41] with
      | error q =>
        rw [hm2] at h3 hgo
        have HG := Lib.hid hgo
        clear hgo
        (repeat' (first
          | with_reducible first | refine L_seq ?_ | refine L_blk ?_ | refine L_skip ?_ | refine L_endblk ?_ | refine L_ret ?_ | refine L_exit ?_ | refine X_code ?_ | refine X_back ?_ | refine X_blk ?_ | refine X_past (by decide) ?_ | refine L_back ?_
          | ((with_reducible refine Kof.use hK ?_); clear hK hE K E)
          | ((with_reducible refine Eof.use hE ?_); (try clear hK hE K E))
          | ((with_reducible refine W_cond (fun h => ?_) (fun h => ?_)) <;> (try (exfalso; first | assumption | omega)))
          | ((with_reducible first | refine G_region fun K E hK hE => ?_ | refine call_ret can65 (ugiven_S _ _ _ _ _) ?_ | refine call_ret can48 (unext_S _ _ _ _ _ _ (by first | assumption | omega | decide)) ?_ | refine W_if ?_ | refine W_ifS ?_ | refine W_and ?_) <;> (try simp (disch := first | assumption | omega) only [go_sem, seval, *]))
          | ((with_reducible refine call_pw can43 (h3) (fun a Lx h => ?_) (fun at_ er Lx h => ?_)) <;> (try simp (disch := first | assumption | omega) only [go_sem, seval, *]))
          | ((with_reducible refine call_pw can43 (umust_S _ _ _ _ _) (fun a Lx h => ?_) (fun at_ er Lx h => ?_)) <;> (try simp (disch := first | assumption | omega) only [go_sem, seval, *]))
          | ((with_reducible refine call_pw can42 (uroom_S _ _ _ _ _ _ _) (fun a Lx h => ?_) (fun at_ er Lx h => ?_)) <;> (try simp (disch := first | assumption | omega) only [go_sem, seval, *]))
          | ((with_reducible refine W_fresh (fun b hb => ?_)); (repeat (obtain ⟨_, hb⟩ := hb)); (try simp (disch := first | assumption | omega) only [go_sem, seval, *]))
          | ((with_reducible refine W_app (fun o2 ho => ?_)); (repeat (obtain ⟨_, ho⟩ := ho)); (try simp (disch := first | assumption | omega) only [go_sem, seval, *]))
          | ((with_reducible refine W_gd (fun h => ?_) (fun h => ?_)) <;> (try (exfalso; first | assumption | omega)) <;> (try simp (disch := first | assumption | omega) only [go_sem, seval, *]))))
        all_goals first
          | (cases h; done)
          | (refine G_pan hQ ?_
             cases h
             exact ⟨_, (HF _ _ hC2).ru, by rw [show res = _ from HG]; exact ⟨rfl, _, rfl⟩⟩)
      | ok q =>
        obtain ⟨u, L3⟩ := q
        rw [hm2] at h3 hgo
        have h3r := h3.ret
        have HG := Lib.hid hgo
        clear hgo h3
        (repeat' (first
          | with_reducible first | refine L_seq ?_ | refine L_blk ?_ | refine L_skip ?_ | refine L_endblk ?_ | refine L_ret ?_ | refine L_exit ?_ | refine X_code ?_ | refine X_back ?_ | refine X_blk ?_ | refine X_past (by decide) ?_ | refine L_back ?_
          | ((with_reducible refine Kof.use hK ?_); clear hK hE K E)
          | ((with_reducible refine Eof.use hE ?_); (try clear hK hE K E))
          | ((with_reducible refine W_cond (fun h => ?_) (fun h => ?_)) <;> (try (exfalso; first | assumption | omega)))
          | ((with_reducible first | refine G_region fun K E hK hE => ?_ | refine call_ret can43 (h3r) ?_ | refine call_ret can65 (ugiven_S _ _ _ _ _) ?_ | refine call_ret can48 (unext_S _ _ _ _ _ _ (by first | assumption | omega | decide)) ?_ | refine W_if ?_ | refine W_ifS ?_ | refine W_and ?_) <;> (try simp (disch := first | assumption | omega) only [go_sem, seval, *]))
          | ((with_reducible refine call_pw can43 (umust_S _ _ _ _ _) (fun a Lx h => ?_) (fun at_ er Lx h => ?_)) <;> (try simp (disch := first | assumption | omega) only [go_sem, seval, *]))
          | ((with_reducible refine call_pw can42 (uroom_S _ _ _ _ _ _ _) (fun a Lx h => ?_) (fun at_ er Lx h => ?_)) <;> (try simp (disch := first | assumption | omega) only [go_sem, seval, *]))
          | ((with_reducible refine W_fresh (fun b hb => ?_)); (repeat (obtain ⟨_, hb⟩ := hb)); (try simp (disch := first | assumption | omega) only [go_sem, seval, *]))
          | ((with_reducible refine W_app (fun o2 ho => ?_)); (repeat (obtain ⟨_, ho⟩ := ho)); (try simp (disch := first | assumption | omega) only [go_sem, seval, *]))
          | ((with_reducible refine W_gd (fun h => ?_) (fun h => ?_)) <;> (try (exfalso; first | assumption | omega)) <;> (try simp (disch := first | assumption | omega) only [go_sem, seval, *]))))
        all_goals (first | refine G_ret hQ (by simp (disch := first | assumption | omega) only [res46, go_sem, seval, *] <;> rfl) ?_ | refine G_norm hQ (by simp (disch := first | assumption | omega) only [res46, go_sem, seval, *] <;> rfl) ?_ | refine G_pan hQ ?_)
        all_goals exact ⟨_, _, Wk.refl _, Fg.refl _, by rw [show res = _ from HG]; exact ⟨rfl, _, rfl, hC2⟩⟩
    | true =>
      obtain ⟨g, rfl⟩ : ∃ g, m = g + 1 := ⟨m - 1, by omega⟩
      rw [if_pos rfl, listGo, bu_assoc] at hgo
      have h3 := uroom_S (M ts o') r e L2 ts.length 8 (nextB ks L2)
      cases hr2 : roomU e L2 ts.length 8 (nextB ks L2) with
      | error q =>
        rw [hr2] at h3 hgo
        have HG := Lib.hid hgo
        clear hgo
        (repeat' (first
          | with_reducible first | refine L_seq ?_ | refine L_blk ?_ | refine L_skip ?_ | refine L_endblk ?_ | refine L_ret ?_ | refine L_exit ?_ | refine X_code ?_ | refine X_back ?_ | refine X_blk ?_ | refine X_past (by decide) ?_ | refine L_back ?_
          | ((with_reducible refine Kof.use hK ?_); clear hK hE K E)
          | ((with_reducible refine Eof.use hE ?_); (try clear hK hE K E))
          | ((with_reducible refine W_cond (fun h => ?_) (fun h => ?_)) <;> (try (exfalso; first | assumption | omega)))
          | ((with_reducible first | refine G_region fun K E hK hE => ?_ | refine call_ret can48 (unext_S _ _ _ _ _ _ hks) ?_ | refine call_ret can65 (ugiven_S _ _ _ _ _) ?_ | refine call_ret can48 (unext_S _ _ _ _ _ _ (by first | assumption | omega | decide)) ?_ | refine W_if ?_ | refine W_ifS ?_ | refine W_and ?_) <;> (try simp (disch := first | assumption | omega) only [go_sem, seval, *]))
          | ((with_reducible refine call_pw can42 (h3) (fun a Lx h => ?_) (fun at_ er Lx h => ?_)) <;> (try simp (disch := first | assumption | omega) only [go_sem, seval, *]))
          | ((with_reducible refine call_pw can43 (umust_S _ _ _ _ _) (fun a Lx h => ?_) (fun at_ er Lx h => ?_)) <;> (try simp (disch := first | assumption | omega) only [go_sem, seval, *]))
          | ((with_reducible refine call_pw can42 (uroom_S _ _ _ _ _ _ _) (fun a Lx h => ?_) (fun at_ er Lx h => ?_)) <;> (try simp (disch := first | assumption | omega) only [go_sem, seval, *]))
          | ((with_reducible refine W_fresh (fun b hb => ?_)); (repeat (obtain ⟨_, hb⟩ := hb)); (try simp (disch := first | assumption | omega) only [go_sem, seval, *]))
          | ((with_reducible refine W_app (fun o2 ho => ?_)); (repeat (obtain ⟨_, ho⟩ := ho)); (try simp (disch := first | assumption | omega) only [go_sem, seval, *]))
          | ((with_reducible refine W_gd (fun h => ?_) (fun h => ?_)) <;> (try (exfalso; first | assumption | omega)) <;> (try simp (disch := first | assumption | omega) only [go_sem, seval, *]))))
        all_goals first
          | (cases h; done)
          | (refine G_pan hQ ?_
             cases h
             exact ⟨_, (HF _ _ hC2).ru, by rw [show res = _ from HG]; exact ⟨rfl, _, rfl⟩⟩)
      | ok q =>
        obtain ⟨u, L3⟩ := q
        obtain rfl := roomU_inv hr2
        rw [hr2] at h3 hgo
        rw [bu_ok, bu_assoc] at hgo
        have h3r := h3.ret
        have h4 := hone ts o' L3 hC2 hG2 (by omega)
        have hsub := fun x L' => HS L3 x L'
        have HSS := Lib.hid hsub
        have HG := Lib.hid hgo
        clear hgo h3 hr2 hsub
        (repeat' (first
          | with_reducible first | refine L_seq ?_ | refine L_blk ?_ | refine L_skip ?_ | refine L_endblk ?_ | refine L_ret ?_ | refine L_exit ?_ | refine X_code ?_ | refine X_back ?_ | refine X_blk ?_ | refine X_past (by decide) ?_ | refine L_back ?_
          | ((with_reducible refine Kof.use hK ?_); clear hK hE K E)
          | ((with_reducible refine Eof.use hE ?_); (try clear hK hE K E))
          | ((with_reducible refine W_cond (fun h => ?_) (fun h => ?_)) <;> (try (exfalso; first | assumption | omega)))
          | ((with_reducible first | refine G_region fun K E hK hE => ?_ | refine call_ret can42 (h3r) ?_ | refine call_ret can48 (unext_S _ _ _ _ _ _ hks) ?_ | refine call_ret can65 (ugiven_S _ _ _ _ _) ?_ | refine call_ret can65 (ugiven_S _ _ _ _ _) ?_ | refine call_ret can48 (unext_S _ _ _ _ _ _ (by first | assumption | omega | decide)) ?_ | refine W_if ?_ | refine W_ifS ?_ | refine W_and ?_) <;> (try simp (disch := first | assumption | omega) only [go_sem, seval, *]))
          | ((with_reducible refine call_pw can43 (umust_S _ _ _ _ _) (fun a Lx h => ?_) (fun at_ er Lx h => ?_)) <;> (try simp (disch := first | assumption | omega) only [go_sem, seval, *]))
          | ((with_reducible refine call_pw can42 (uroom_S _ _ _ _ _ _ _) (fun a Lx h => ?_) (fun at_ er Lx h => ?_)) <;> (try simp (disch := first | assumption | omega) only [go_sem, seval, *]))
          | ((with_reducible refine W_fresh (fun b hb => ?_)); (repeat (obtain ⟨_, hb⟩ := hb)); (try simp (disch := first | assumption | omega) only [go_sem, seval, *]))
          | ((with_reducible refine W_app (fun o2 ho => ?_)); (repeat (obtain ⟨_, ho⟩ := ho)); (try simp (disch := first | assumption | omega) only [go_sem, seval, *]))
          | ((with_reducible refine W_gd (fun h => ?_) (fun h => ?_)) <;> (try (exfalso; first | assumption | omega)) <;> (try simp (disch := first | assumption | omega) only [go_sem, seval, *]))
          | ((with_reducible refine call_pq hcan h4 (fun a Lx ix hx hc => ?_) (fun at_ er Lx hx => ?_)) <;> (try simp (disch := first | assumption | omega) only [go_sem, seval, *]))))
        all_goals first
          | (refine G_pan hQ ?_
             rw [hx, bu_err] at HG
             exact ⟨_, Fg.refl _, by rw [show res = _ from HG]; exact ⟨rfl, _, rfl⟩⟩)
          | (rw [hx, bu_ok] at HG
             obtain ⟨hs1, hs2⟩ := HSS a Lx hx
             exact ⟨g, by omega, ts ++ [a], ix, if isT Lx 0 [44] = true then Lx.tail else Lx, isT Lx 0 [44], hc, by (split; exact (hG2.sub hs2).tail; exact hG2.sub hs2), by (split <;> (try simp only [List.length_tail]) <;> omega), by (simp only [List.length_append, List.length_cons, List.length_nil]; split <;> (try simp only [List.length_tail]) <;> omega), rfl, by (rw [show res = _ from HG]; cases isT Lx 0 [44] <;> rfl), by ((try simp (disch := first | assumption | omega) only [go_sem, seval, *]) <;> first | rfl | omega), by ((try simp (disch := first | assumption | omega) only [go_sem, seval, *]) <;> first | rfl | omega), by ((try simp (disch := first | assumption | omega) only [go_sem, seval, *]) <;> first | rfl | omega), by (rw [show ((ts ++ [a]).length : Int) = (ts.length : Int) + 1 by simp]; ((try simp (disch := first | assumption | omega) only [go_sem, seval, *]) <;> first | rfl | omega)), by ((try simp (disch := first | assumption | omega) only [go_sem, seval, *]) <;> first | rfl | omega)⟩)
theorem Ru_dis {s : St} {r e : Nat} {L : List Sgn} {o : Own} (h : NotOwn o r) : (Ru s r e L).disown o = Ru (s.disown o) r e L := disown_set h
theorem Ru_own {s : St} {r e T sz k : Nat} {L : List Sgn} {o : Own} (h : NotOwn o r) : (Ru s r e L).own o T sz k = Ru (s.own o T sz k) r e L := own_push h
theorem Ru_ok {s : St} {r e k : Nat} {L : List Sgn} {o : Own} : OwnOk (Ru s r e L) o k = (NotOwn o r ∧ OwnOk s o k) := ownok_o
theorem Ru_ownd {s : St} {r e T sz k : Nat} {L : List Sgn} {o : Own} (h : NotOwn o r) : Owned (Ru s r e L) o T sz k = Owned s o T sz k := owned_set h
attribute [local go_sem] Ru_dis Ru_own Ru_ok Ru_ownd
/-- An atom. -/
structure Atm where
  not : Bool
  rel : List UInt8
  ts : List Trm
def atmC (a : Atm) : List VV := [.bool a.not, .str a.rel, .lst (a.ts.map trmC) .no]
def atomU (e : Nat) (L : List Sgn) (nt : Bool) : PU Atm := bu (nameU e L) fun rel L => bu (listU e (termU e) [1, 2] L) fun ts L => .ok (⟨nt, rel, ts⟩, L)
theorem nameU_sub {e : Nat} {L L' : List Sgn} {x : List UInt8} {k : Nat} (h : kindU e L k = .ok (x, L')) : L'.length < L.length ∧ ∀ y, y ∈ L' → y ∈ L := by
  cases L with
  | nil => cases h
  | cons y L =>
    simp only [kindU] at h
    split at h
    · injection h with h; injection h with _ h; subst h
      exact ⟨by simp, fun z hz => by simp [hz]⟩
    · cases h
theorem termU_sub {e : Nat} {L L' : List Sgn} {x : Trm} (h : termU e L = .ok (x, L')) : L'.length < L.length ∧ ∀ y, y ∈ L' → y ∈ L := by
  unfold termU at h
  split at h
  · unfold numU at h
    cases h1 : kindU e L 2 with
    | error q => rw [h1] at h; cases h
    | ok q => obtain ⟨t, L1⟩ := q; rw [h1] at h; simp only [bu_ok] at h; injection h with h; injection h with _ h; subst h; exact nameU_sub h1
  · cases h1 : nameU e L with
    | error q => rw [h1] at h; cases h
    | ok q => obtain ⟨t, L1⟩ := q; rw [h1] at h; simp only [bu_ok] at h; injection h with h; injection h with _ h; subst h; exact nameU_sub h1
/-- Where an atom is read: its terms so far. -/
abbrev Am (s : St) (b : Nat) (nt : Bool) (rel : List UInt8) (ts : List Trm) (o : Own) : St := (s.own o 81 3 ts.length).set b (.obj 49 [.bool nt, .str rel, .lst (ts.map trmC) o])
def AmC (s : St) (b r b2 : Nat) (ts : List Trm) (o : Own) : Prop := OwnOk s o ts.length ∧ NotOwn o b ∧ NotOwn o r ∧ NotOwn o b2
theorem uone_S (s : St) (r e b b2 : Nat) (nt : Bool) (rel : List UInt8) (hb : s b = .free) (n1 : ¬ b = r) (n2 : ¬ b2 = b) (n3 : ¬ b2 = r) (h2 : s b2 = .obj 69 [.ptr r 0])
    (ts : List Trm) (o : Own) (L : List Sgn) (hC : AmC s b r b2 ts o) (hG : GoodU L) (hl : ts.length ≤ 100000) :
    SCalls Tryd.prog 81 [.ptr b 0, .ptr b2 0] (Ru (Am s b nt rel ts o) r e L)
      (PQ (fun _ => .tup []) (fun x L o' => Ru (Am s b nt rel (ts ++ [x]) o') r e L) (fun x _ o' => AmC s b r b2 (ts ++ [x]) o') (fun L => Ru s r e L) (termU e L)) := by
  obtain ⟨hO, q1, q2, q3⟩ := hC
  have h1 := fun s => uterm_S s r e L hG
  have hm : (ts.map trmC).length = ts.length := by simp
  have hfg : Fg (Am s b nt rel ts o) s := (Fg.of_set _ (by rw [own_rd q1]; exact hb)).trans (Fg.own hO)
  have HF := Lib.hid hfg
  clear hfg
  cases hr : termU e L with
  | error q =>
    rw [hr] at h1
    clear hr
    refine G_enter Tryd.func81 rfl Tryd.ntmps81 rfl fun Q hQ hQe => ?_
    (repeat' (first
      | with_reducible first | refine L_seq ?_ | refine L_blk ?_ | refine L_skip ?_ | refine L_endblk ?_ | refine L_ret ?_ | refine L_exit ?_ | refine X_code ?_ | refine X_back ?_ | refine X_blk ?_ | refine X_past (by decide) ?_ | refine L_back ?_
      | ((with_reducible refine Kof.use hK ?_); clear hK hE K E)
      | ((with_reducible refine Eof.use hE ?_); (try clear hK hE K E))
      | ((with_reducible refine Kof.use hKh ?_); clear hKh Kh)
      | ((with_reducible refine Kof.use hKb (P_next ?_)); clear hKb Kb)
      | with_reducible refine G_plan 0 [([0, 1, 2], 3, [[0, 1]]), ([4], 5, [[], []]), ([6], 7, [[], [], []])] [] hQe fun K E hK hE => ?_
      | ((with_reducible refine W_cond (fun h => ?_) (fun h => ?_)) <;> (try (exfalso; first | assumption | omega)))
      | ((with_reducible first | refine G_region fun K E hK hE => ?_ | refine W_if ?_ | refine W_ifS ?_ | refine P_heads fun Kh hKh => ?_ | refine P_fin fun Kh hKh => ?_ | refine P_each fun Kb hKb => ?_ | refine W_and ?_) <;> (try simp (disch := first | assumption | omega) only [go_sem, seval, hm, *]))
      | ((with_reducible refine call_pw can82 (h1 _) (fun a Lx h => ?_) (fun at_ er Lx h => ?_)) <;> (try simp (disch := first | assumption | omega) only [go_sem, seval, hm, *]))
      | ((with_reducible refine call_pw can82 (uterm_S _ _ _ _ (by assumption)) (fun a Lx h => ?_) (fun at_ er Lx h => ?_)) <;> (try simp (disch := first | assumption | omega) only [go_sem, seval, hm, *]))
      | ((with_reducible refine W_fresh (fun b hb => ?_)); (repeat (obtain ⟨_, hb⟩ := hb)); (try simp (disch := first | assumption | omega) only [go_sem, seval, hm, *]))
      | ((with_reducible refine W_app (fun o2 ho => ?_)); (try simp (disch := assumption) only [disown_set, disown_own, ownok_o, ownok_m, List.length_map, List.length_cons, List.length_nil, Nat.zero_add, hm] at ho); (repeat (obtain ⟨_, ho⟩ := ho)); (try simp (disch := first | assumption | omega) only [go_sem, seval, hm, *]))
      | ((with_reducible refine W_gd (fun h => ?_) (fun h => ?_)) <;> (try (exfalso; first | assumption | omega)) <;> (try simp (disch := first | assumption | omega) only [go_sem, seval, hm, *]))))
    all_goals first
      | (cases h; done)
      | (refine G_pan hQ ?_
         cases h
         exact ⟨_, Fg.ru HF, rfl, _, rfl⟩)
  | ok q =>
    obtain ⟨x, L'⟩ := q
    rw [hr] at h1
    have h1r := fun s => (h1 s).ret
    clear hr h1
    obtain ⟨xv, xn, xm⟩ := x
    simp only [trmC] at h1r
    refine G_enter Tryd.func81 rfl Tryd.ntmps81 rfl fun Q hQ hQe => ?_
    (repeat' (first
      | with_reducible first | refine L_seq ?_ | refine L_blk ?_ | refine L_skip ?_ | refine L_endblk ?_ | refine L_ret ?_ | refine L_exit ?_ | refine X_code ?_ | refine X_back ?_ | refine X_blk ?_ | refine X_past (by decide) ?_ | refine L_back ?_
      | ((with_reducible refine Kof.use hK ?_); clear hK hE K E)
      | ((with_reducible refine Eof.use hE ?_); (try clear hK hE K E))
      | ((with_reducible refine Kof.use hKh ?_); clear hKh Kh)
      | ((with_reducible refine Kof.use hKb (P_next ?_)); clear hKb Kb)
      | with_reducible refine G_plan 0 [([0, 1, 2], 3, [[0, 1]]), ([4], 5, [[], []]), ([6], 7, [[], [], []])] [] hQe fun K E hK hE => ?_
      | ((with_reducible refine W_cond (fun h => ?_) (fun h => ?_)) <;> (try (exfalso; first | assumption | omega)))
      | ((with_reducible first | refine G_region fun K E hK hE => ?_ | refine call_ret can82 (h1r _) ?_ | refine W_if ?_ | refine W_ifS ?_ | refine P_heads fun Kh hKh => ?_ | refine P_fin fun Kh hKh => ?_ | refine P_each fun Kb hKb => ?_ | refine W_and ?_) <;> (try simp (disch := first | assumption | omega) only [go_sem, seval, hm, trmC, Ru_ok, Ru_dis, Ru_own, Ru_ownd, *]))
      | ((with_reducible refine call_pw can82 (uterm_S _ _ _ _ (by assumption)) (fun a Lx h => ?_) (fun at_ er Lx h => ?_)) <;> (try simp (disch := first | assumption | omega) only [go_sem, seval, hm, trmC, Ru_ok, Ru_dis, Ru_own, Ru_ownd, *]))
      | ((with_reducible refine W_fresh (fun b hb => ?_)); (repeat (obtain ⟨_, hb⟩ := hb)); (try simp (disch := first | assumption | omega) only [go_sem, seval, hm, trmC, Ru_ok, Ru_dis, Ru_own, Ru_ownd, *]))
      | ((with_reducible refine W_app (fun o2 ho => ?_)); (try simp (disch := assumption) only [disown_set, disown_own, ownok_o, ownok_m, List.length_map, List.length_cons, List.length_nil, Nat.zero_add, hm, trmC, Ru_ok, Ru_dis, Ru_own, Ru_ownd] at ho); (repeat (obtain ⟨_, ho⟩ := ho)); (try simp (disch := first | assumption | omega) only [go_sem, seval, hm, trmC, Ru_ok, Ru_dis, Ru_own, Ru_ownd, *]))
      | ((with_reducible refine W_gd (fun h => ?_) (fun h => ?_)) <;> (try (exfalso; first | assumption | omega)) <;> (try simp (disch := first | assumption | omega) only [go_sem, seval, hm, trmC, Ru_ok, Ru_dis, Ru_own, Ru_ownd, *]))))
    all_goals (first | refine G_ret hQ (by simp (disch := first | assumption | omega) only [res81, go_sem, seval, *] <;> rfl) ?_ | refine G_norm hQ (by simp (disch := first | assumption | omega) only [res81, go_sem, seval, *] <;> rfl) ?_ | refine G_pan hQ ?_)
    all_goals exact ⟨_, _, Wk.refl _, Fg.refl _, rfl, o2, by simp [Am, trmC], by simpa using ho, by assumption, by assumption, ho.not (by rw [h2]; simp)⟩
end Go.Proofs.YtbfgdblebepgcaaDoor
