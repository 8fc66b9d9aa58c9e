/- What is proved: What the reader of package osierref15 hands back, on: statements and blocks; What the reader of package osierref15 hands back, on: blocks. Conditions: those that stand in the statements. -/
import Derived.Test.YtejlknplmfmceaaZRc
set_option linter.unusedSimpArgs false
set_option linter.unusedVariables false
set_option maxRecDepth 100000
namespace Go.Proofs.Ytejlknplmfmceaa
open Go.RowKit

section
variable {L : List Sgn} {a n er bd e a' n' er' bd' a0 n0 f deep : Nat}
theorem RP.back {α : Type} {res : PR α} {x : α} (h : RP L a n er bd res x a' n' er' bd') (h0 : er' = 0) : er = 0 := by
  by_cases he : er = 0
  · exact he
  · exact absurd ((h.old he).1 ▸ h0) he
theorem drop_len (h : (L.drop a').length + 1 ≤ (L.drop a0).length) (ha : a' ≤ L.length) : a0 + 1 ≤ a' := by
  rw [List.length_drop, List.length_drop] at h; omega
theorem RPl_must {t : List UInt8} (h : RP L a n er bd (mustP e (L.drop a0) n0 t) () a' n' er' bd') : er' = 0 → er = 0 ∧ a0 + 1 ≤ a' ∧ n' = n0 := fun h0 => by
  have := mustP_len (h.ok (h.back h0) h0)
  exact ⟨h.back h0, drop_len (by omega) h.le, this.2⟩
theorem RPl_name {x : List UInt8} (h : RP L a n er bd (nameP e (L.drop a0) n0) x a' n' er' bd') : er' = 0 → er = 0 ∧ a0 + 1 ≤ a' ∧ n' = n0 := fun h0 => by
  have := nameP_len (h.ok (h.back h0) h0)
  exact ⟨h.back h0, drop_len (by omega) h.le, this.2⟩
theorem RPl_plain {x : Stm} (h : RP L a n er bd (plainP e (L.drop a0) n0) x a' n' er' bd') : er' = 0 → er = 0 ∧ a0 + 1 ≤ a' ∧ n' = n0 := fun h0 => by
  have := plainP_len (h.ok (h.back h0) h0)
  exact ⟨h.back h0, drop_len (by omega) h.le, this.2⟩
theorem RPl_block {x : List Stm} (h : RP L a n er bd (blockP e f deep (L.drop a0) n0) x a' n' er' bd') : er' = 0 → er = 0 ∧ a0 + 1 ≤ a' ∧ n' + (L.length - a') ≤ n0 + (L.length - a0) := fun h0 => by
  have := (parse_len e f).2.1 _ _ _ _ _ _ (h.ok (h.back h0) h0)
  rw [List.length_drop, List.length_drop] at this
  have := h.le
  exact ⟨h.back h0, by omega, by omega⟩
theorem RPl_stmt {x : Stm} (h : RP L a n er bd (stmtP e f deep (L.drop a0) n0) x a' n' er' bd') : er' = 0 → er = 0 ∧ a0 + 1 ≤ a' ∧ n' + (L.length - a') ≤ n0 + (L.length - a0) := fun h0 => by
  have := (parse_len e f).1 _ _ _ _ _ _ (h.ok (h.back h0) h0)
  rw [List.length_drop, List.length_drop] at this
  have := h.le
  exact ⟨h.back h0, by omega, by omega⟩
end

def StmtR (f : Nat) : Prop := ∀ (s : St) (r : Nat) (L : List Sgn) (e a n bd deep : Nat), a < L.length → L.length ≤ 4096 → GoodL L → deep ≤ 8 → 3 * (L.length - a) + 1 ≤ f → n + (L.length - a) ≤ 10000 →
    SCalls Try.prog 91 [.ptr r 0, .int .i64 deep] (Rf s r L e a n 0 bd) (fun w u => ∃ q : Stm × Nat × Nat × Nat × Nat, w = .ret (stV q.1) ∧ u = Rf s r L e q.2.1 q.2.2.1 q.2.2.2.1 q.2.2.2.2 ∧ RP L a n 0 bd (stmtP e f deep (L.drop a) n) q.1 q.2.1 q.2.2.1 q.2.2.2.1 q.2.2.2.2)
def BlockR (f : Nat) : Prop := ∀ (s : St) (r : Nat) (L : List Sgn) (e a n er bd deep : Nat), a ≤ L.length → L.length ≤ 4096 → GoodL L → deep ≤ 8 → (er = 0 → 3 * (L.length - a) + 3 ≤ f ∧ n + (L.length - a) ≤ 10000) →
    SCalls Try.prog 73 [.ptr r 0, .int .i64 deep] (Rf s r L e a n er bd) (fun w u => ∃ q : List Stm × Nat × Nat × Nat × Nat, w = .ret (stsV q.1) ∧ u = Rf s r L e q.2.1 q.2.2.1 q.2.2.2.1 q.2.2.2.2 ∧ RP L a n er bd (blockP e f deep (L.drop a) n) q.1 q.2.1 q.2.2.1 q.2.2.2.1 q.2.2.2.2)

set_option maxHeartbeats 4000000 in
theorem Rstmt_S (f : Nat) (ih : BlockR f) : StmtR (f + 1) := by
  unfold BlockR at ih
  intro s r L e a n bd deep ha hL hG hd hf hn
  have hal : a ≤ L.length := by omega
  refine G_enter Try.func91 rfl Try.ntmps91 rfl fun Q hQ hQe => ?_
  have hbeg : begB (L.drop a) = (RnameB (nth L a).text || isT (L.drop a) 0 [105, 102] || isT (L.drop a) 0 [108, 111, 111, 112] || isT (L.drop a) 0 [114, 101, 116, 117, 114, 110]) := by unfold begB; rw [hG.nm ha]
  (repeat' (first | refine Ctl ?_ | ((with_reducible refine Kof.use hK ?_); clear hK hE K E) | ((with_reducible refine Eof.use hE ?_); (try clear hK hE K E)) | ((with_reducible refine Kof.use hKh ?_); clear hKh Kh) | ((with_reducible refine Kof.use hKb (P_next ?_)); clear hKb Kb) | (with_reducible refine G_plan 1 [([0, 1, 2, 3, 4, 5, 6], 7, [[]]), ([8, 9], 10, [[], []]), ([11, 12, 13], 14, [[], [], []]), ([15, 16, 17, 18, 19, 20, 21, 22, 23, 24, 25, 26, 27], 28, [[], [], [], []])] [29, 30] hQe fun K E hK hE => ?_) | ((with_reducible refine W_cond (fun h => ?_) (fun h => ?_)) <;> (try have hlt := isT_lt h) <;> (try (exfalso; first | assumption | omega))) | ((first | (with_reducible first | refine G_region fun K E hK hE => ?_ | refine call_ret can38 (Rfail_S _ _ _ _ _ _ _ _ _ (by decide)) ?_ | refine call_ret can37 (Rfis_S _ _ _ _ _ _ _ _ _ _ (by omega) (by omega)) ?_ | refine call_ret can51 (Rname_S _ _) ?_ | refine W_if ?_ | refine W_ifS ?_ | refine P_heads fun Kh hKh => ?_ | refine P_fin fun Kh hKh => ?_ | refine P_each fun Kb hKb => ?_ | refine W_and ?_) | ((with_reducible refine call_ex can73 (ih _ _ _ _ _ _ _ _ _ (by first | assumption | omega) (by assumption) (by assumption) (by assumption) ?_) (fun a h => ?_)); (focus (intro h0; first | (simp [fE_eq] at h0; done) | omega | grind)); obtain ⟨vx, ax, nx, ex, bx⟩ := a; (try dsimp only at h); (try have hle := h.1); (try first | have hlen := RPl_must h | have hlen := RPl_name h | have hlen := RPl_plain h | have hlen := RPl_block h)) | ((with_reducible refine call_ex can49 (Rtakes_S _ _ _ _ _ _ _ _ _ (by first | assumption | omega) (by assumption)) (fun a h => ?_)); obtain ⟨ax, nx, ex, bx⟩ := a; (try dsimp only at h); (try have hle := h.1); (try first | have hlen := RPl_must h | have hlen := RPl_name h | have hlen := RPl_plain h | have hlen := RPl_block h)) | ((with_reducible refine call_ex can50 (Rnm_S _ _ _ _ _ _ _ _ (by first | assumption | omega) (by assumption) (by assumption)) (fun a h => ?_)); obtain ⟨vx, ax, nx, ex, bx⟩ := a; (try dsimp only at h); have hup := h.2; replace h := RPn.rp h; (try have hle := h.1); (try first | have hlen := RPl_must h | have hlen := RPl_name h | have hlen := RPl_plain h | have hlen := RPl_block h)) | ((with_reducible refine call_ex can100 (Rplain_S _ _ _ _ _ _ _ _ (by first | assumption | omega) (by assumption) (by assumption)) (fun a h => ?_)); obtain ⟨vx, ax, nx, ex, bx⟩ := a; (try dsimp only at h); (try have hle := h.1); (try first | have hlen := RPl_must h | have hlen := RPl_name h | have hlen := RPl_plain h | have hlen := RPl_block h)) | ((with_reducible refine W_fresh (fun b hb => ?_)); (repeat (obtain ⟨_, hb⟩ := hb))) | ((with_reducible refine W_gd (fun h => ?_) (fun h => ?_)) <;> (try have hlt := isT_lt h) <;> (try (exfalso; first | assumption | omega)))) <;> (try simp (disch := first | assumption | omega) only [go_sem, seval, Rf, strsV, stsV, stV, stC_len, stC_all, stC_take, rf_out, sgn_at, sgnC, *]))))
  all_goals (first | refine G_ret hQ (by simp (disch := first | assumption | omega) only [res91, go_sem, seval, stC_len, stC_all, stC_take, Nat.le_refl, *] <;> rfl) ?_ | refine G_norm hQ (by simp (disch := first | assumption | omega) only [res91, go_sem, seval, stC_len, stC_all, stC_take, Nat.le_refl, *] <;> rfl) ?_ | refine G_pan hQ ?_)
  all_goals
    clear ih hQe
    have hroom : (1024 ≤ n → begB (L.drop a) = true → RP L a n 0 bd (roomP e (L.drop a) n n 1024 (begB (L.drop a))) () a n (fE 0 2) (fB 0 bd (place e (L.drop a)))) := fun h1 h2 => RP.room hal (fun _ _ => ⟨rfl, rfl⟩) (fun _ h => absurd ⟨h1, h2⟩ h) (fun h => absurd rfl h)
    have hroom2 : (¬ (1024 ≤ n ∧ begB (L.drop a) = true) → RP L a n 0 bd (roomP e (L.drop a) n n 1024 (begB (L.drop a))) () a n 0 bd) := fun h => RP.room hal (fun h1 h2 => absurd ⟨h1, h2⟩ h) (fun _ _ => ⟨rfl, rfl⟩) (fun h => absurd rfl h)
    rcases Decidable.em (1024 ≤ n ∧ begB (L.drop a) = true) with hc | hc
    · replace hroom := hroom hc.1 hc.2
      clear hroom2
      first
        | (exfalso
           obtain ⟨hc1, hc2⟩ := hc
           rw [hbeg] at hc2
           first | omega | (simp [*] at hc2; done))
        | (clear hc hbeg
           refine fin_stm (by (repeat (first | exact WkL.nil | apply WkL.nostrs | apply WkL.nosts | apply WkL.same | apply WkL.lst))) (z_fg) ?_
           simp only [stmtP]
           (repeat (first | exact RP.mk_same (by first | assumption | omega) | assumption | (refine RP.bind (by assumption) ?_) | (simp only [bnd_ok, bnd_assoc, drop_tl, isT_tail, true_or, or_true, or_self, true_and, and_true, false_and, and_false, and_self, false_or, or_false, if_true, if_false, reduceIte, Bool.false_eq_true, Bool.true_eq_false, eq_self, reduceCtorEq, List.drop_drop, *]))); done)
        | (clear hc hbeg
           refine fin_val (enc := stV) (z_fg) ?_
           simp only [stmtP]
           (repeat (first | exact RP.mk_same (by first | assumption | omega) | assumption | (refine RP.bind (by assumption) ?_) | (simp only [bnd_ok, bnd_assoc, drop_tl, isT_tail, true_or, or_true, or_self, true_and, and_true, false_and, and_false, and_self, false_or, or_false, if_true, if_false, reduceIte, Bool.false_eq_true, Bool.true_eq_false, eq_self, reduceCtorEq, List.drop_drop, *]))); done)
    · replace hroom2 := hroom2 hc
      clear hroom
      first
        | (exfalso
           refine hc ⟨by omega, ?_⟩
           rw [hbeg]
           simp [*]
           done)
        | (clear hc hbeg
           refine fin_stm (by (repeat (first | exact WkL.nil | apply WkL.nostrs | apply WkL.nosts | apply WkL.same | apply WkL.lst))) (z_fg) ?_
           simp only [stmtP]
           (repeat (first | exact RP.mk_same (by first | assumption | omega) | assumption | (refine RP.bind (by assumption) ?_) | (simp only [bnd_ok, bnd_assoc, drop_tl, isT_tail, true_or, or_true, or_self, true_and, and_true, false_and, and_false, and_self, false_or, or_false, if_true, if_false, reduceIte, Bool.false_eq_true, Bool.true_eq_false, eq_self, reduceCtorEq, List.drop_drop, *]))); done)
        | (clear hc hbeg
           refine fin_val (enc := stV) (z_fg) ?_
           simp only [stmtP]
           (repeat (first | exact RP.mk_same (by first | assumption | omega) | assumption | (refine RP.bind (by assumption) ?_) | (simp only [bnd_ok, bnd_assoc, drop_tl, isT_tail, true_or, or_true, or_self, true_and, and_true, false_and, and_false, and_self, false_or, or_false, if_true, if_false, reduceIte, Bool.false_eq_true, Bool.true_eq_false, eq_self, reduceCtorEq, List.drop_drop, *]))); done)
end Go.Proofs.Ytejlknplmfmceaa
set_option maxRecDepth 100000
namespace Go.Proofs.Ytejlknplmfmceaa
open Go.RowKit

theorem stmtsP_done {e g deep : Nat} {out : List Stm} {L : List Sgn} {n : Nat} (h : isT L 0 [125] = true) : stmtsP e (g + 1) deep out L n = bnd (mustP e L n [125]) fun _ L n => .ok (out, L, n) := by
  simp only [stmtsP, h, if_true, mustP, bnd_ok]
theorem stmtsP_step {e g deep : Nat} {out : List Stm} {L : List Sgn} {n : Nat} (h : isT L 0 [125] = false) : stmtsP e (g + 1) deep out L n = bnd (stmtP e g (deep + 1) L n) fun x L n => stmtsP e g deep (out ++ [x]) L n := by
  simp only [stmtsP, h, Bool.false_eq_true, if_false]
theorem stmtP_nil {e g deep n : Nat} : stmtP e (g + 1) deep [] n = .error (e, 150) := by
  have h1 : begB [] = false := rfl
  have h2 : ∀ t, isT [] 0 t = false := fun t => rfl
  simp only [stmtP, roomP, h1, h2, Bool.false_eq_true, and_false, if_false, bnd_ok, plainP, nameP, bnd_err]

set_option maxHeartbeats 4000000 in
theorem Rblock_S (f : Nat) (ih : ∀ g, g ≤ f → StmtR g) : BlockR (f + 1) := by
  unfold StmtR at ih
  intro s r L e a n er bd deep ha hL hG hd hf
  refine G_enter Try.func73 rfl Try.ntmps73 rfl fun Q hQ hQe => ?_
  (repeat' (first | refine Ctl ?_ | ((with_reducible refine Kof.use hK ?_); clear hK hE K E) | ((with_reducible refine Eof.use hE ?_); (try clear hK hE K E)) | ((with_reducible refine Kof.use hKh ?_); clear hKh Kh) | ((with_reducible refine Kof.use hKb (P_next ?_)); clear hKb Kb) | (with_reducible refine G_plan 6 [] [0, 1, 2, 3, 4, 5, 6, 7, 8, 9] hQe fun K E hK hE => ?_) | ((with_reducible refine W_cond (fun h => ?_) (fun h => ?_)) <;> (try (exfalso; first | assumption | omega))) | ((first | (with_reducible first | refine G_region fun K E hK hE => ?_ | refine call_ret can38 (Rfail_S _ _ _ _ _ _ _ _ _ (by decide)) ?_ | refine call_ret can37 (Rfis_S _ _ _ _ _ _ _ _ _ _ (by omega) (by omega)) ?_ | refine W_if ?_ | refine W_ifS ?_ | refine P_heads fun Kh hKh => ?_ | refine P_fin fun Kh hKh => ?_ | refine P_each fun Kb hKb => ?_ | refine W_and ?_) | ((with_reducible refine call_ex can49 (Rtakes_S _ _ _ _ _ _ _ _ _ (by first | assumption | omega) (by assumption)) (fun a h => ?_)); obtain ⟨ax, nx, ex, bx⟩ := a; (try dsimp only at h); (try have hle := h.1); (try first | have hlen := RPl_must h)) | ((with_reducible refine W_app (fun o2 ho => ?_)); (try simp (disch := assumption) only [disown_set, disown_own, ownok_o, ownok_m, List.length_map, List.length_cons, List.length_nil, Nat.zero_add, Rf, strsV, stsV, rf_out, stsC_len] at ho); (repeat (obtain ⟨_, ho⟩ := ho))) | ((with_reducible refine W_gd (fun h => ?_) (fun h => ?_)) <;> (try (exfalso; first | assumption | omega)))) <;> (try simp (disch := first | assumption | omega) only [go_sem, seval, Rf, strsV, stsV, rf_out, stsC_len, *]))))
  all_goals
    have hst : RP L a n er bd (bnd (roomP e (L.drop a) n deep 8 (isT (L.drop a) 0 [123])) fun _ L n => mustP e L n [123]) () ax nx ex bx := by
      refine RP.bind (x := ()) ?_ h
      refine RP.room ha ?_ ?_ ?_ <;> grind [fE_eq, fB_eq]
    have hd7 : ex = 0 → deep ≤ 7 ∧ er = 0 ∧ a + 1 ≤ ax ∧ nx = n := fun h0 => by
      have e1 := hlen h0
      have e0 := hst.back h0
      refine ⟨?_, e0, e1.2.1, e1.2.2⟩
      have hok := hst.ok e0 h0
      replace hok := bnd_inv hok
      obtain ⟨_, L1, n1, h1, h2⟩ := hok
      have hq : isT L1 0 [123] = true := by
        unfold mustP at h2
        split at h2
        · assumption
        · cases h2
      obtain ⟨q1, q2⟩ := roomP_eq h1
      subst q1
      unfold roomP at h1
      split at h1
      · cases h1
      · rename_i hn
        have hn8 := fun h8 => hn ⟨h8, hq⟩
        rcases Nat.lt_or_ge deep 8 with h8 | h8
        · omega
        · exact (hn8 h8).elim
    clear h hlen
    have hgo0 : ∀ (q : List Stm) (a' n' er' bd' : Nat), RP L ax nx ex bx (stmtsP e f deep [] (L.drop ax) nx) q a' n' er' bd' → RP L a n er bd (blockP e (f + 1) deep (L.drop a) n) q a' n' er' bd' := fun q a' n' er' bd' hh => by
      simp only [blockP]
      have := RP.bind hst (k := fun _ L n => stmtsP e f deep [] L n) hh
      rwa [bnd_assoc] at this
    clear hst
    refine L_loop (fun m env s' => ∃ (a2 n2 er2 bd2 g : Nat) (out : List Stm) (o : Own), a2 ≤ L.length ∧ (m = if er2 = 0 then g + 1 else 0) ∧ (er2 = 0 → deep ≤ 7 ∧ 3 * (L.length - a2) + 2 ≤ g ∧ g ≤ f ∧ n2 + (L.length - a2) ≤ 10000 ∧ out.length + (L.length - a2) ≤ 5000) ∧ out.length ≤ 5001 ∧
      (∀ (q : List Stm) (a' n' er' bd' : Nat), RP L a2 n2 er2 bd2 (stmtsP e g deep out (L.drop a2) n2) q a' n' er' bd' → RP L a n er bd (blockP e (f + 1) deep (L.drop a) n) q a' n' er' bd') ∧
      s' = Rf (s.own o 58 8 out.length) r L e a2 n2 er2 bd2 ∧ OwnOk s o out.length ∧ NotOwn o r ∧ env 0 = .ptr r 0 ∧ env 1 = .int .i64 deep ∧ env 5 = .lst (stsC out) o) (if ex = 0 then f + 1 else 0) ?_ ?_
    · exact ⟨ax, nx, ex, bx, f, [], .full, hle, rfl, fun h0 => (by have := hd7 h0; have := hf this.2.1; simp; omega), by simp, hgo0, rfl, rfl, trivial, z_sl, z_sl, z_sl⟩
    · rintro m env s' ⟨a2, n2, er2, bd2, g, out, o, ha2, hm, hb, hl1, hgo, rfl, hown, hnr, e0, e1, e5⟩
      clear hgo0 hd7
      by_cases hz : er2 = 0
      · subst hz
        rw [if_pos rfl] at hm
        obtain ⟨hd7, hg1, hg2, hn2, hlo⟩ := hb rfl
        clear hb
        obtain ⟨g, rfl⟩ : ∃ g', g = g' + 1 := ⟨g - 1, by omega⟩
        replace ih := ih g (by omega)
        (repeat' (first | refine Ctl ?_ | ((with_reducible refine Kof.use hK ?_); clear hK hE K E) | ((with_reducible refine Eof.use hE ?_); (try clear hK hE K E)) | ((with_reducible refine Kof.use hKh ?_); clear hKh Kh) | ((with_reducible refine Kof.use hKb (P_next ?_)); clear hKb Kb) | (with_reducible refine G_plan 6 [] [0, 1, 2, 3, 4, 5, 6, 7, 8, 9] hQe fun K E hK hE => ?_) | ((with_reducible refine W_cond (fun h => ?_) (fun h => ?_)) <;> (try (exfalso; first | assumption | omega))) | ((first | (with_reducible first | refine G_region fun K E hK hE => ?_ | refine call_ret can38 (Rfail_S _ _ _ _ _ _ _ _ _ (by decide)) ?_ | refine call_ret can37 (Rfis_S _ _ _ _ _ _ _ _ _ _ (by omega) (by omega)) ?_ | refine W_if ?_ | refine W_ifS ?_ | refine P_heads fun Kh hKh => ?_ | refine P_fin fun Kh hKh => ?_ | refine P_each fun Kb hKb => ?_ | refine W_and ?_) | ((with_reducible refine call_ex can91 (ih _ _ _ _ _ _ _ _ (by omega) (by assumption) (by assumption) (by omega) (by omega) (by omega)) (fun a h => ?_)); obtain ⟨vx, ax, nx, ex, bx⟩ := a; (try dsimp only at h); (try have hle := h.1); (try have hlen := RPl_stmt h)) | ((with_reducible refine call_ex can49 (Rtakes_S _ _ _ _ _ _ _ _ _ (by first | assumption | omega) (by assumption)) (fun a h => ?_)); obtain ⟨ax, nx, ex, bx⟩ := a; (try dsimp only at h); (try have hle := h.1); (try have hlen := RPl_stmt h)) | ((with_reducible refine W_app (fun o2 ho => ?_)); (try simp (disch := assumption) only [disown_set, disown_own, ownok_o, ownok_m, List.length_map, List.length_cons, List.length_nil, Nat.zero_add, Rf, List.length_map, sgn_at, sgnC, stsC_len, stV, stC_len, stC_all, vrow] at ho); (repeat (obtain ⟨_, ho⟩ := ho))) | ((with_reducible refine W_gd (fun h => ?_) (fun h => ?_)) <;> (try (exfalso; first | assumption | omega)))) <;> (try simp (disch := first | assumption | omega) only [go_sem, seval, Rf, List.length_map, sgn_at, sgnC, stsC_len, stV, stC_len, stC_all, vrow, *]))))
        all_goals clear ih
        all_goals first
          | (have hd2 : L.drop a2 = [] := List.drop_eq_nil_iff.2 (by omega)
             have hE : fE 0 150 = 150 := by rw [fE_eq]; rfl
             have hB : fB 0 bd2 (place e (L.drop a2)) = e := by rw [fB_eq, hd2]; rfl
             rw [hE, hB]
             refine ⟨0, by omega, a2, n2, 150, e, g, out, o, ha2, rfl, (fun h0 => by cases h0), hl1, fun q a' n' er' bd' hh => ?_, rfl, hown, hnr, z_sl, z_sl, z_sl⟩
             refine hgo _ _ _ _ _ ?_
             rw [stmtsP_step (by assumption)]
             obtain ⟨g1, rfl⟩ : ∃ g1, g = g1 + 1 := ⟨g - 1, by omega⟩
             refine RP.bind (x := Stm.mk 0 [] [] [] [] [] [] []) (a1 := a2) (n1 := n2) (RP.mk_no ha2 (by decide) (by rw [hd2, stmtP_nil])) (hh.any (by decide)))
          | (refine ⟨if ex = 0 then g + 1 else 0, by split <;> omega, ax, nx, ex, bx, g, out ++ [vx], o2, hle, rfl, fun h0 => ?_, ?_, fun q a' n' er' bd' hh => ?_, ?_, by simpa using ho, by assumption, z_sl, z_sl, ?_⟩
             · have := hlen h0; simp only [List.length_append, List.length_cons, List.length_nil]; omega
             · simp only [List.length_append, List.length_cons, List.length_nil]; omega
             · refine hgo _ _ _ _ _ ?_
               rw [stmtsP_step (by assumption)]
               exact RP.bind h hh
             · simp only [List.length_append, List.length_cons, List.length_nil]
             · (simp (disch := first | assumption | omega) only [go_sem, seval, *])
               rw [stsC_app])
          | (rw [stmtsP_done (by assumption)] at hgo
             (first | refine W_ret res73 hQ ?_ | refine W_norm res73 hQ ?_ | refine G_pan hQ ?_)
             refine ⟨_, _, ?_, ?_, (out, ax, nx, ex, bx), rfl, rfl, ?_⟩
             · exact Wk.lst _ _
             · (exact z_fg)
             · exact hgo _ _ _ _ _ (RP.bind h (RP.mk_same h.le)))
      · have hz' : ¬ (er2 : Int) = 0 := by omega
        rw [if_neg hz] at hm
        clear ih
        (repeat' (first | refine Ctl ?_ | ((with_reducible refine Kof.use hK ?_); clear hK hE K E) | ((with_reducible refine Eof.use hE ?_); (try clear hK hE K E)) | ((with_reducible refine Kof.use hKh ?_); clear hKh Kh) | ((with_reducible refine Kof.use hKb (P_next ?_)); clear hKb Kb) | (with_reducible refine G_plan 6 [] [0, 1, 2, 3, 4, 5, 6, 7, 8, 9] hQe fun K E hK hE => ?_) | ((with_reducible refine W_cond (fun h => ?_) (fun h => ?_)) <;> (try (exfalso; first | assumption | omega))) | ((first | (with_reducible first | refine G_region fun K E hK hE => ?_ | refine call_ret can38 (Rfail_S _ _ _ _ _ _ _ _ _ (by decide)) ?_ | refine call_ret can37 (Rfis_S _ _ _ _ _ _ _ _ _ _ (by omega) (by omega)) ?_ | refine W_if ?_ | refine W_ifS ?_ | refine P_heads fun Kh hKh => ?_ | refine P_fin fun Kh hKh => ?_ | refine P_each fun Kb hKb => ?_ | refine W_and ?_) | ((with_reducible refine call_ex can49 (Rtakes_S _ _ _ _ _ _ _ _ _ (by first | assumption | omega) (by assumption)) (fun a h => ?_)); obtain ⟨ax, nx, ex, bx⟩ := a; (try dsimp only at h); (try have hle := h.1)) | ((with_reducible refine W_app (fun o2 ho => ?_)); (try simp (disch := assumption) only [disown_set, disown_own, ownok_o, ownok_m, List.length_map, List.length_cons, List.length_nil, Nat.zero_add, Rf, List.length_map, sgn_at, sgnC, stsC_len] at ho); (repeat (obtain ⟨_, ho⟩ := ho))) | ((with_reducible refine W_gd (fun h => ?_) (fun h => ?_)) <;> (try (exfalso; first | assumption | omega)))) <;> (try simp (disch := first | assumption | omega) only [go_sem, seval, Rf, List.length_map, sgn_at, sgnC, stsC_len, *]))))
        all_goals (first | refine W_ret res73 hQ ?_ | refine W_norm res73 hQ ?_ | refine G_pan hQ ?_)
        all_goals refine ⟨_, _, ?_, ?_, (out, ax, nx, ex, bx), rfl, rfl, ?_⟩
        · exact Wk.lst _ _
        · (exact z_fg)
        · have := h.old hz
          exact hgo _ _ _ _ _ (by rw [this.1, this.2]; exact RP.mk_old h.le hz)
end Go.Proofs.Ytejlknplmfmceaa
