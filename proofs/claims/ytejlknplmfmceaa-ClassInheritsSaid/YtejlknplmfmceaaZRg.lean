/- What is proved: What osierref15.Parse hands back. Conditions: those that stand in the statements. -/
import Derived.Test.YtejlknplmfmceaaZRf
set_option linter.unusedSimpArgs false
set_option linter.unusedVariables false
set_option maxRecDepth 100000
namespace Go.Proofs.Ytejlknplmfmceaa
open Go.RowKit

def parsesP (e : Nat) : Nat → List Cls → List Sgn → Nat → PR (List Cls)
  | 0, _, _, _ => .error (0, 0)
  | f + 1, out, L, n => if L = [] then .ok (out, L, n) else bnd (roomP e L n out.length 32 (isT L 0 [99, 108, 97, 115, 115])) fun _ L n => bnd (classP e L n) fun c L n => parsesP e f (out ++ [c]) L n
/-- The source of a text, or where it is none, and why. -/
def parseS (s : List UInt8) : Except (Nat × Nat) (List Cls) :=
  match lexSigns s with
  | .error x => .error x
  | .ok L => match parsesP s.length (L.length + 1) [] L 0 with
    | .ok (cs, _, _) => .ok cs
    | .error x => .error x
def srcV (cs : List Cls) : VV := .agg [.lst (cs.map clsC) .no]
def parseV : Except (Nat × Nat) (List Cls) → VV
  | .ok cs => .tup [srcV cs, .int .i64 0, .int .i64 0]
  | .error (a, e) => .tup [srcV [], .int .i64 a, .int .i64 e]

theorem Wk_src {cs : List Cls} {o : Own} {a e : Int} : Wk (.tup [.agg [.lst (cs.map clsC) o], .int .i64 a, .int .i64 e]) (.tup [srcV cs, .int .i64 a, .int .i64 e]) :=
  Wk.tup rfl fun j x y hx hy => by
    match j with
    | 0 => simp at hx hy; subst hx; subst hy; exact Wk.agg (.lst _ _ .nil)
    | 1 => simp at hx hy; subst hx; subst hy; exact Wk.refl _
    | 2 => simp at hx hy; subst hx; subst hy; exact Wk.refl _
    | j + 3 => simp at hx
theorem lexGo_err : ∀ (f : Nat) (s : List UInt8) (at_ : Nat) (out : List Sgn) (a e : Nat), lexGo f s at_ out = .error (a, e) → e ≠ 0
  | 0, s, at_, out, a, e, h => by simp only [lexGo] at h; cases h
  | f + 1, s, at_, out, a, e, h => by
    simp only [lexGo] at h
    cases hd : s.drop (runN blankB s) with
    | nil => rw [hd] at h; cases h
    | cons c r =>
      rw [hd] at h
      simp only at h
      split at h
      · exact lexGo_err f _ _ _ _ _ h
      · split at h
        · injection h with h; injection h with h1 h2; subst h2; decide
        · split at h
          · injection h with h; injection h with h1 h2; subst h2; decide
          · exact lexGo_err f _ _ _ _ _ h
theorem lexSigns_err {s : List UInt8} {a e : Nat} (h : lexSigns s = .error (a, e)) : e ≠ 0 := by
  unfold lexSigns at h
  split at h
  · injection h with h; injection h with h1 h2; subst h2; decide
  · exact lexGo_err _ _ _ _ _ _ h

theorem mthsP_len {e : Nat} : ∀ (f : Nat) (out : List Mth) (L L' : List Sgn) (n n' : Nat) (ms : List Mth), mthsP e f out L n = .ok (ms, L', n') → L'.length ≤ L.length ∧ n' + L'.length ≤ n + L.length
  | 0, out, L, L', n, n', ms, h => by simp only [mthsP] at h; cases h
  | f + 1, out, L, L', n, n', ms, h => by
    cases ht : isT L 0 [125] with
    | true =>
      rw [mthsP_done ht] at h
      replace h := bnd_inv h
      obtain ⟨_, L1, n1, h1, h⟩ := h
      obtain ⟨_, rfl, rfl⟩ := ok_inj h
      have := mustP_len h1
      omega
    | false =>
      rw [mthsP_step ht] at h
      replace h := bnd_inv h
      obtain ⟨_, L1, n1, h1, h⟩ := h
      obtain ⟨rfl, rfl⟩ := roomP_eq h1
      replace h := bnd_inv h
      obtain ⟨m, L2, n2, h2, h⟩ := h
      have e2 := mthP_len h2
      have e3 := mthsP_len f _ _ _ _ _ _ h
      omega
theorem classP_len {e : Nat} {L L' : List Sgn} {n n' : Nat} {c : Cls} (h : classP e L n = .ok (c, L', n')) : L'.length + 1 ≤ L.length ∧ n' + L'.length ≤ n + L.length := by
  unfold classP at h
  replace h := bnd_inv h
  obtain ⟨_, L1, n1, h1, h⟩ := h
  replace h := bnd_inv h
  obtain ⟨x, L2, n2, h2, h⟩ := h
  replace h := bnd_inv h
  obtain ⟨y, L3, n3, h3, h⟩ := h
  replace h := bnd_inv h
  obtain ⟨_, L4, n4, h4, h⟩ := h
  replace h := bnd_inv h
  obtain ⟨ms, L5, n5, h5, h⟩ := h
  obtain ⟨_, rfl, rfl⟩ := ok_inj h
  have e1 := mustP_len h1
  have e2 := nameP_len h2
  have e4 := mustP_len h4
  have e5 := mthsP_len _ _ _ _ _ _ _ h5
  have e3 : L3.length ≤ L2.length ∧ n3 = n2 := by
    split at h3
    · rename_i ht
      have t1 := tail_len ht
      rw [bnd_id] at h3
      have := nameP_len h3
      omega
    · obtain ⟨_, rfl, rfl⟩ := ok_inj h3; exact ⟨Nat.le_refl _, rfl⟩
  omega
theorem RPl_class {L : List Sgn} {a n er bd e a' n' er' bd' a0 n0 : Nat} {x : Cls} (h : RP L a n er bd (classP e (L.drop a0) n0) x a' n' er' bd') : er' = 0 → er = 0 ∧ a0 + 1 ≤ a' ∧ n' + (L.length - a') ≤ n0 + (L.length - a0) := fun h0 => by
  have := classP_len (h.ok (h.back h0) h0)
  rw [List.length_drop, List.length_drop] at this
  have := h.le
  exact ⟨h.back h0, by omega, by omega⟩

set_option maxHeartbeats 4000000 in
theorem Rparse_S (l : List UInt8) (hl : l.length ≤ 9223372036854775000) (s : St) : SRet Try.prog 26 [.str l] s (parseV (parseS l)) s := by
  refine G_enter Try.func26 rfl Try.ntmps26 rfl fun Q hQ hQe => ?_
  have hsig := Rsigns_S l hl
  cases hL : lexSigns l with
  | error x =>
    obtain ⟨a, e⟩ := x
    have he := lexSigns_err hL
    have he' : ¬ (e : Int) = 0 := by omega
    rw [hL] at hsig
    simp only [signsV] at hsig
    (repeat' (first | refine Ctl ?_ | ((with_reducible refine Kof.use hK ?_); clear hK hE K E) | ((with_reducible refine Eof.use hE ?_); (try clear hK hE K E)) | ((with_reducible refine Kof.use hKh ?_); clear hKh Kh) | ((with_reducible refine Kof.use hKb (P_next ?_)); clear hKb Kb) | (with_reducible first | refine G_plan 6 [] [0, 1, 2, 3, 4, 5, 6, 7, 8, 9, 10, 11, 12, 13, 14, 15, 16] hQe fun K E hK hE => ?_ | refine G_plan 9 [([0, 1, 2], 3, [[0, 1]]), ([4], 5, [[], []]), ([6], 7, [[], [], []])] [] hQe fun K E hK hE => ?_ | refine G_plan 11 [([0, 1, 2, 3, 4, 5, 6, 7, 8], 9, [[1, 2, 3, 4, 5, 6, 7, 8]])] [10, 11] hQe fun K E hK hE => ?_) | ((with_reducible refine W_cond (fun h => ?_) (fun h => ?_)) <;> (try (exfalso; first | assumption | omega))) | ((first | (with_reducible first | refine G_region fun K E hK hE => ?_ | refine call_ret can36 (hsig _) ?_ | refine call_ret can38 (Rfail_S _ _ _ _ _ _ _ _ _ (by decide)) ?_ | refine call_ret can37 (Rfis_S _ _ _ _ _ _ _ _ _ _ (by omega) (by omega)) ?_ | refine call_ret can36 (Rsigns_S _ (by first | assumption | omega) _) ?_ | refine W_if ?_ | refine W_ifS ?_ | refine P_heads fun Kh hKh => ?_ | refine P_fin fun Kh hKh => ?_ | refine P_each fun Kb hKb => ?_ | refine W_and ?_) | ((with_reducible refine call_ex can39 (Rclass_S _ _ _ _ _ _ _ _ (by first | assumption | omega) (by assumption) (by assumption) ?_) (fun a h => ?_)); (focus (intro h0; first | (simp [fE_eq] at h0; done) | omega | grind)); obtain ⟨vx, ax, nx, ex, bx⟩ := a; (try dsimp only at h); (try have hle := h.1)) | ((with_reducible refine W_fresh (fun b hb => ?_)); (repeat (obtain ⟨_, hb⟩ := hb))) | ((with_reducible refine W_app (fun o2 ho => ?_)); (repeat (obtain ⟨_, ho⟩ := ho))) | ((with_reducible refine W_gd (fun h => ?_) (fun h => ?_)) <;> (try (exfalso; first | assumption | omega)))) <;> (try simp (disch := first | assumption | omega) only [go_sem, seval, *]))))
    all_goals (first | refine W_ret res26 hQ ?_ | refine W_norm res26 hQ ?_ | refine G_pan hQ ?_)
    all_goals (refine ⟨_, _, ?_, ?_, rfl, rfl⟩)
    · have : parseS l = .error (a, e) := by unfold parseS; rw [hL]
      rw [this]
      exact Wk_src (cs := [])
    · (exact z_fg)
  | ok L =>
    obtain ⟨hG, hLl⟩ := lexSigns_good hL
    rw [hL] at hsig
    simp only [signsV] at hsig
    (repeat' (first | refine Ctl ?_ | ((with_reducible refine Kof.use hK ?_); clear hK hE K E) | ((with_reducible refine Eof.use hE ?_); (try clear hK hE K E)) | ((with_reducible refine Kof.use hKh ?_); clear hKh Kh) | ((with_reducible refine Kof.use hKb (P_next ?_)); clear hKb Kb) | (with_reducible first | refine G_plan 6 [] [0, 1, 2, 3, 4, 5, 6, 7, 8, 9, 10, 11, 12, 13, 14, 15, 16] hQe fun K E hK hE => ?_ | refine G_plan 9 [([0, 1, 2], 3, [[0, 1]]), ([4], 5, [[], []]), ([6], 7, [[], [], []])] [] hQe fun K E hK hE => ?_ | refine G_plan 11 [([0, 1, 2, 3, 4, 5, 6, 7, 8], 9, [[1, 2, 3, 4, 5, 6, 7, 8]])] [10, 11] hQe fun K E hK hE => ?_) | ((with_reducible refine W_cond (fun h => ?_) (fun h => ?_)) <;> (try (exfalso; first | assumption | omega))) | ((first | (with_reducible first | refine G_region fun K E hK hE => ?_ | refine call_ret can36 (hsig _) ?_ | refine call_ret can38 (Rfail_S _ _ _ _ _ _ _ _ _ (by decide)) ?_ | refine call_ret can37 (Rfis_S _ _ _ _ _ _ _ _ _ _ (by omega) (by omega)) ?_ | refine call_ret can36 (Rsigns_S _ (by first | assumption | omega) _) ?_ | refine W_if ?_ | refine W_ifS ?_ | refine P_heads fun Kh hKh => ?_ | refine P_fin fun Kh hKh => ?_ | refine P_each fun Kb hKb => ?_ | refine W_and ?_) | ((with_reducible refine call_ex can39 (Rclass_S _ _ _ _ _ _ _ _ (by first | assumption | omega) (by assumption) (by assumption) ?_) (fun a h => ?_)); (focus (intro h0; first | (simp [fE_eq] at h0; done) | omega | grind)); obtain ⟨vx, ax, nx, ex, bx⟩ := a; (try dsimp only at h); (try have hle := h.1)) | ((with_reducible refine W_fresh (fun b hb => ?_)); (repeat (obtain ⟨_, hb⟩ := hb))) | ((with_reducible refine W_app (fun o2 ho => ?_)); (try simp (disch := assumption) only [disown_set, disown_own, ownok_o, ownok_m, List.length_map, List.length_cons, List.length_nil, Nat.zero_add, rf_out] at ho); (repeat (obtain ⟨_, ho⟩ := ho))) | ((with_reducible refine W_gd (fun h => ?_) (fun h => ?_)) <;> (try (exfalso; first | assumption | omega)))) <;> (try simp (disch := first | assumption | omega) only [go_sem, seval, rf_out, *]))))
    rename_i b0 hb0 r q1 q2 hr q3 q4 q5 q6
    clear hsig
    have hgo0 : ∀ (q : List Cls) (a' n' er' bd' : Nat), RP L 0 0 0 0 (parsesP l.length (L.length + 1) [] (L.drop 0) 0) q a' n' er' bd' → (er' = 0 → parseS l = .ok q) ∧ (er' ≠ 0 → parseS l = .error (bd', er')) := fun q a' n' er' bd' hh => by
      refine ⟨fun h0 => ?_, fun h0 => ?_⟩
      · have := hh.ok rfl h0
        rw [List.drop_zero] at this
        unfold parseS; rw [hL]; simp only [this]
      · have := hh.no rfl h0
        rw [List.drop_zero] at this
        unfold parseS; rw [hL]; simp only [this]
    refine L_loop (fun m env s' => ∃ (a4 n4 er4 bd4 g : Nat) (out : List Cls) (o : Own), a4 ≤ L.length ∧ (m = if er4 = 0 then g + 1 else 0) ∧ (er4 = 0 → L.length - a4 + 1 ≤ g ∧ n4 + (L.length - a4) ≤ 10000 ∧ out.length + (L.length - a4) ≤ 5000) ∧ out.length ≤ 5001 ∧
      (∀ (q : List Cls) (a' n' er' bd' : Nat), RP L a4 n4 er4 bd4 (parsesP l.length g out (L.drop a4) n4) q a' n' er' bd' → (er' = 0 → parseS l = .ok q) ∧ (er' ≠ 0 → parseS l = .error (bd', er'))) ∧
      s' = Rf (((s.own o 38 3 out.length).set b0 (.obj 24 [.lst [] .full])).set b (.obj 24 [.lst (out.map clsC) o])) r L l.length a4 n4 er4 bd4 ∧
      OwnOk s o out.length ∧ NotOwn o r ∧ NotOwn o b0 ∧ NotOwn o b ∧ env 0 = .str l ∧ env 2 = .ptr b0 0 ∧ env 8 = .ptr r 0 ∧ env 9 = .ptr b 0) (L.length + 1 + 1) ?_ ?_
    · exact ⟨0, 0, 0, 0, _, [], .full, by omega, rfl, fun h0 => (by simp; omega), by simp, hgo0, rfl, rfl, trivial, trivial, trivial, z_sl, z_sl, z_sl, z_sl⟩
    · rintro m env s' ⟨a4, n4, er4, bd4, g, out, o, ha4, hm, hbb, hl1, hgo, rfl, hown, hnr, hn0, hnb, z0, z2, z8, z9⟩
      clear hgo0
      by_cases hz : er4 = 0
      · subst hz
        rw [if_pos rfl] at hm
        obtain ⟨hg1, hn2, hlo⟩ := hbb rfl
        clear hbb
        obtain ⟨g, rfl⟩ : ∃ g', g = g' + 1 := ⟨g - 1, by omega⟩
        (repeat' (first | refine Ctl ?_ | ((with_reducible refine Kof.use hK ?_); clear hK hE K E) | ((with_reducible refine Eof.use hE ?_); (try clear hK hE K E)) | ((with_reducible refine Kof.use hKh ?_); clear hKh Kh) | ((with_reducible refine Kof.use hKb (P_next ?_)); clear hKb Kb) | (with_reducible first | refine G_plan 6 [] [0, 1, 2, 3, 4, 5, 6, 7, 8, 9, 10, 11, 12, 13, 14, 15, 16] hQe fun K E hK hE => ?_ | refine G_plan 9 [([0, 1, 2], 3, [[0, 1]]), ([4], 5, [[], []]), ([6], 7, [[], [], []])] [] hQe fun K E hK hE => ?_ | refine G_plan 11 [([0, 1, 2, 3, 4, 5, 6, 7, 8], 9, [[1, 2, 3, 4, 5, 6, 7, 8]])] [10, 11] hQe fun K E hK hE => ?_) | ((with_reducible refine W_cond (fun h => ?_) (fun h => ?_)) <;> (try have hlt := isT_lt h) <;> (try (exfalso; first | assumption | omega))) | ((first | (with_reducible first | refine G_region fun K E hK hE => ?_ | refine call_ret can38 (Rfail_S _ _ _ _ _ _ _ _ _ (by decide)) ?_ | refine call_ret can37 (Rfis_S _ _ _ _ _ _ _ _ _ _ (by omega) (by omega)) ?_ | refine call_ret can36 (Rsigns_S _ (by first | assumption | omega) _) ?_ | refine W_if ?_ | refine W_ifS ?_ | refine P_heads fun Kh hKh => ?_ | refine P_fin fun Kh hKh => ?_ | refine P_each fun Kb hKb => ?_ | refine W_and ?_) | ((with_reducible refine call_ex can39 (Rclass_S _ _ _ _ _ _ _ _ (by first | assumption | omega) (by assumption) (by assumption) ?_) (fun a h => ?_)); (focus (intro h0; first | (simp [fE_eq] at h0; done) | omega | grind)); obtain ⟨vx, ax, nx, ex, bx⟩ := a; (try dsimp only at h); (try have hle := h.1); (try have hlen := RPl_class h)) | ((with_reducible refine W_fresh (fun b hb => ?_)); (repeat (obtain ⟨_, hb⟩ := hb))) | ((with_reducible refine W_app (fun o2 ho => ?_)); (try simp (disch := assumption) only [disown_set, disown_own, ownok_o, ownok_m, List.length_map, List.length_cons, List.length_nil, Nat.zero_add, Rf, List.length_map, clsV, clsC, vrow, rf_out] at ho); (repeat (obtain ⟨_, ho⟩ := ho))) | ((with_reducible refine W_gd (fun h => ?_) (fun h => ?_)) <;> (try have hlt := isT_lt h) <;> (try (exfalso; first | assumption | omega)))) <;> (try simp (disch := first | assumption | omega) only [go_sem, seval, Rf, List.length_map, clsV, clsC, vrow, rf_out, *]))))
        all_goals first
          | (have hd4 : L.drop a4 = [] := List.drop_eq_nil_iff.2 (by omega)
             have hfin := (hgo out a4 n4 0 bd4 (RP.mk_ok ha4 (by rw [hd4]; rfl))).1 rfl
             (first | refine W_ret res26 hQ ?_ | refine W_norm res26 hQ ?_ | refine G_pan hQ ?_)
             refine ⟨_, _, ?_, ?_, rfl, rfl⟩
             · rw [hfin]; exact Wk_src
             · (exact z_fg))
          | (have hs : RP L a4 n4 0 bd4 (bnd (roomP l.length (L.drop a4) n4 out.length 32 (isT (L.drop a4) 0 [99, 108, 97, 115, 115])) fun _ L n => classP l.length L n) vx ax nx ex bx := by
               apply RP.bind (x := ()) (h2 := h)
               refine RP.room ha4 ?_ ?_ ?_ <;> grind [fE_eq, fB_eq]
             have hlen := fun h0 => (hlen h0).2
             have hne : L.drop a4 ≠ [] := fun e => by have := List.drop_eq_nil_iff.1 e; omega
             refine ⟨if ex = 0 then g + 1 else 0, by split <;> omega, ax, nx, ex, bx, g, out ++ [vx], o2, hle, rfl, fun h0 => ?_, ?_, fun q a' n' er' bd' hh => ?_, ?_, by simpa using ho, by assumption, by assumption, by assumption, z_sl, z_sl, z_sl, z_sl⟩
             · have := hlen h0; simp only [List.length_append, List.length_cons, List.length_nil]; omega
             · simp only [List.length_append, List.length_cons, List.length_nil]; omega
             · refine hgo q a' n' er' bd' ?_
               simp only [parsesP, if_neg hne]
               have := RP.bind hs (k := fun c L n => parsesP l.length g (out ++ [c]) L n) hh
               rwa [bnd_assoc] at this
             · simp only [List.length_append, List.length_cons, List.length_nil, List.map_append, List.map_cons, List.map_nil, clsC])
      · have hz' : ¬ (er4 : Int) = 0 := by omega
        rw [if_neg hz] at hm
        (repeat' (first | refine Ctl ?_ | ((with_reducible refine Kof.use hK ?_); clear hK hE K E) | ((with_reducible refine Eof.use hE ?_); (try clear hK hE K E)) | ((with_reducible refine Kof.use hKh ?_); clear hKh Kh) | ((with_reducible refine Kof.use hKb (P_next ?_)); clear hKb Kb) | (with_reducible first | refine G_plan 6 [] [0, 1, 2, 3, 4, 5, 6, 7, 8, 9, 10, 11, 12, 13, 14, 15, 16] hQe fun K E hK hE => ?_ | refine G_plan 9 [([0, 1, 2], 3, [[0, 1]]), ([4], 5, [[], []]), ([6], 7, [[], [], []])] [] hQe fun K E hK hE => ?_ | refine G_plan 11 [([0, 1, 2, 3, 4, 5, 6, 7, 8], 9, [[1, 2, 3, 4, 5, 6, 7, 8]])] [10, 11] hQe fun K E hK hE => ?_) | ((with_reducible refine W_cond (fun h => ?_) (fun h => ?_)) <;> (try (exfalso; first | assumption | omega))) | ((first | (with_reducible first | refine G_region fun K E hK hE => ?_ | refine call_ret can38 (Rfail_S _ _ _ _ _ _ _ _ _ (by decide)) ?_ | refine call_ret can37 (Rfis_S _ _ _ _ _ _ _ _ _ _ (by omega) (by omega)) ?_ | refine call_ret can36 (Rsigns_S _ (by first | assumption | omega) _) ?_ | refine W_if ?_ | refine W_ifS ?_ | refine P_heads fun Kh hKh => ?_ | refine P_fin fun Kh hKh => ?_ | refine P_each fun Kb hKb => ?_ | refine W_and ?_) | ((with_reducible refine call_ex can39 (Rclass_S _ _ _ _ _ _ _ _ (by first | assumption | omega) (by assumption) (by assumption) ?_) (fun a h => ?_)); (focus (intro h0; first | (simp [fE_eq] at h0; done) | omega | grind)); obtain ⟨vx, ax, nx, ex, bx⟩ := a; (try dsimp only at h); (try have hle := h.1)) | ((with_reducible refine W_fresh (fun b hb => ?_)); (repeat (obtain ⟨_, hb⟩ := hb))) | ((with_reducible refine W_app (fun o2 ho => ?_)); (try simp (disch := assumption) only [disown_set, disown_own, ownok_o, ownok_m, List.length_map, List.length_cons, List.length_nil, Nat.zero_add, Rf, List.length_map, rf_out] at ho); (repeat (obtain ⟨_, ho⟩ := ho))) | ((with_reducible refine W_gd (fun h => ?_) (fun h => ?_)) <;> (try (exfalso; first | assumption | omega)))) <;> (try simp (disch := first | assumption | omega) only [go_sem, seval, Rf, List.length_map, rf_out, *]))))
        have hfin := (hgo [] a4 n4 er4 bd4 (RP.mk_old ha4 hz)).2 hz
        (first | refine W_ret res26 hQ ?_ | refine W_norm res26 hQ ?_ | refine G_pan hQ ?_)
        refine ⟨_, _, ?_, ?_, rfl, rfl⟩
        · rw [hfin]; exact Wk_src (cs := [])
        · (exact z_fg)
end Go.Proofs.Ytejlknplmfmceaa
