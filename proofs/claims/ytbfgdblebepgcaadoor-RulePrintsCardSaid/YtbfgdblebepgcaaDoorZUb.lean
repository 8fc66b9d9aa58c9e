/- What is proved: Numbers as texts, and texts as numbers; terms. Conditions: those that stand in the statements. -/
import Derived.Test.YtbfgdblebepgcaaDoorZUa
import Derived.Test.YtbfgdblebepgcaaDoorZJoin
import Derived.Lib.SmallJoins
set_option linter.unusedSimpArgs false
set_option linter.unusedVariables false
set_option maxRecDepth 100000
namespace Go.Proofs.YtbfgdblebepgcaaDoor
open Go.RowKit
attribute [local go_sem] Ru_at Ru_mk2

theorem RL_one' {G : Gh} {vs : Array Value} {x : VV} (h : RL G vs [x]) : ∃ a, vs = #[a] ∧ R G a x := by
  obtain ⟨hs, hr⟩ := h
  obtain ⟨l⟩ := vs
  match l, hs, hr with
  | [a], _, hr => exact ⟨a, rfl, hr 0 a x rfl rfl⟩
theorem below_growN (w : World) (k : Nat) (os : Array Obj) : Below w.heap.size w (Sort.grow (w.drewN k) os) :=
  ⟨rfl, rfl, rfl, by simp [Sort.grow, World.drewN], fun j hj => by
    show (w.heap ++ os)[j]? = w.heap[j]?
    rw [Array.getElem?_append_left hj]⟩
theorem Itoa_S (n : Int) (h0 : -9223372036854775808 ≤ n) (h1 : n ≤ 9223372036854775807) (s : St) : SRet Tryd.prog 17 [.int .i64 n] s (.str (Lib.itoa n)) s := by
  intro w0 G w vs hS hA
  obtain ⟨a, rfl, ha⟩ := RL_one' hA
  cases ha
  have htab : Lib.TabIs Tryd.prog w "internal/strconv.uint64pow10" .u64 Lib.pow10Tab := by
    have hg : Lib.TabIs Tryd.prog w0 "internal/strconv.uint64pow10" .u64 Lib.pow10Tab := hS.gl
    unfold Lib.TabIs World.var? at hg ⊢
    cases hn : Tryd.prog.globalNamed "internal/strconv.uint64pow10" with
    | none => rw [hn] at hg; cases hg
    | some g =>
      rw [hn] at hg
      simp only [Option.bind_some] at hg ⊢
      have hlt : g < w0.heap.size := by
        cases hc : w0.heap[g]? with
        | none => rw [hc] at hg; cases hg
        | some o => exact (Array.getElem?_eq_some_iff.1 hc).1
      rw [hS.below.block g hlt]
      exact hg
  refine Calls.mono (Tryd.strconv_Itoa n h0 h1 w htab) fun e w' h => ?_
  obtain ⟨rfl, k, os, rfl⟩ := h
  exact ⟨G, s, .ret (.str (Lib.itoa n)), Gh.le.refl G, hS.world (below_growN w k os), by
    have := R.str (G := G) (Lib.itoa n).toArray
    simpa [RE] using this, rfl, rfl⟩
theorem Atoi_S (t : List UInt8) (n : Int) (hl : t.length ≤ 18) (h : Lib.atoi t = some n) (s : St) : SRet Tryd.prog 67 [.str t] s (.tup [.int .i64 n, .raw .nilIface]) s := by
  intro w0 G w vs hS hA
  obtain ⟨a, rfl, ha⟩ := RL_one' hA
  cases ha with
  | str a =>
    refine Calls.mono (Tryd.strconv_Atoi ⟨a⟩ n (by simpa [ByteArray.size] using hl) h w) fun e w' h => ?_
    obtain ⟨rfl, t, rfl⟩ := h
    refine ⟨G, s, .ret (.tup [.int .i64 n, .raw .nilIface]), Gh.le.refl G, hS.world ⟨rfl, rfl, rfl, by rw [Lib.bytesWorld_size]; omega, fun j hj => Lib.bytesWorld_at_old _ _ _ j hj⟩, ?_, rfl, rfl⟩
    refine R.tup _ _ rfl fun j v y hv hy => ?_
    match j with
    | 0 => simp at hv hy; subst hv; subst hy; exact .int _ _
    | 1 => simp at hv hy; subst hv; subst hy; exact .raw _
    | j + 2 => simp at hy

/-- Where a number stands in a list. -/
def ixI (n : Int) : List Int → Int
  | [] => -1
  | x :: l => if n = x then 0 else (if ixI n l < 0 then -1 else ixI n l + 1)
def intsV (l : List Int) : List (List VV) := l.map fun n => [.int .i64 n]
theorem ixI_none {n : Int} : ∀ {l : List Int}, (∀ x, x ∈ l → ¬ n = x) → ixI n l = -1
  | [], _ => rfl
  | x :: l, h => by
    simp only [ixI]
    rw [if_neg (h x (by simp)), ixI_none fun y hy => h y (by simp [hy])]
    rfl
theorem ixI_at {n : Int} : ∀ {l : List Int} {i : Nat}, (∀ x, x ∈ l.take i → ¬ n = x) → l[i]? = some n → ixI n l = i
  | [], i, _, h => by simp at h
  | x :: l, 0, _, h => by simp at h; subst h; simp [ixI]
  | x :: l, i + 1, ha, h => by
    have h1 : ¬ n = x := ha x (by simp)
    have h2 := ixI_at (l := l) (i := i) (fun z hz => ha z (by simp [hz])) (by simpa using h)
    simp only [ixI]
    rw [if_neg h1, h2, if_neg (by omega)]
    omega
theorem ixI_any (n : Int) : ∀ l : List Int, decide (0 ≤ ixI n l) = l.contains n
  | [] => by simp [ixI]
  | x :: l => by
    have := ixI_any n l
    by_cases hx : n = x
    · subst hx; simp [ixI]
    · simp only [ixI, if_neg hx, List.contains_cons, beq_eq_false_iff_ne.2 hx, Bool.false_or]
      rw [← this]
      split <;> simp <;> omega
theorem ixI_S (l : List Int) (o : Own) (n : Int) (hn : l.length ≤ 9223372036854775000) (s : St) : SRet Tryd.prog 80 [.lst (intsV l) o, .int .i64 n] s (.int .i64 (ixI n l)) s := by
  have hsl : (intsV l).length = l.length := by simp [intsV]
  refine G_enter Tryd.func80 rfl Tryd.ntmps80 rfl fun Q hQ hQe => ?_
  (repeat' (first
    | with_reducible first | refine L_seq ?_ | refine L_blk ?_ | refine L_skip ?_ | refine L_endblk ?_ | refine L_ret ?_ | refine L_exit ?_ | refine X_code ?_ | refine X_back ?_ | refine X_blk ?_ | refine X_past (by decide) ?_ | refine L_back ?_
    | ((with_reducible refine Kof.use hK ?_); clear hK hE K E)
    | ((with_reducible refine Eof.use hE ?_); (try clear hK hE K E))
    | ((with_reducible refine W_cond (fun h => ?_) (fun h => ?_)) <;> (try (exfalso; first | assumption | omega)))
    | ((with_reducible first | refine G_region fun K E hK hE => ?_ | refine W_if ?_ | refine W_ifS ?_ | refine W_and ?_) <;> (try simp (disch := first | assumption | omega) only [go_sem, seval, hsl, *]))
    | ((with_reducible refine W_fresh (fun b hb => ?_)); (repeat (obtain ⟨_, hb⟩ := hb)); (try simp (disch := first | assumption | omega) only [go_sem, seval, hsl, *]))
    | ((with_reducible refine W_app (fun o2 ho => ?_)); (try simp (disch := assumption) only [disown_set, disown_own, ownok_o, ownok_m, List.length_map, List.length_cons, List.length_nil, Nat.zero_add, hsl] at ho); (repeat (obtain ⟨_, ho⟩ := ho)); (try simp (disch := first | assumption | omega) only [go_sem, seval, hsl, *]))
    | ((with_reducible refine W_gd (fun h => ?_) (fun h => ?_)) <;> (try (exfalso; first | assumption | omega)) <;> (try simp (disch := first | assumption | omega) only [go_sem, seval, hsl, *]))))
  refine L_loop (fun m env s' => ∃ (i : Nat), i ≤ l.length ∧ m + i = l.length ∧ (∀ x, x ∈ l.take i → ¬ n = x) ∧ s' = s ∧ env 0 = .lst (intsV l) o ∧ env 1 = .int .i64 n ∧ env 7 = .int .i64 l.length ∧ env 8 = .int .i64 i) l.length
    ⟨0, by omega, by omega, by simp, rfl, by ((try simp (disch := first | assumption | omega) only [go_sem, seval, *]) <;> first | rfl | omega), by ((try simp (disch := first | assumption | omega) only [go_sem, seval, *]) <;> first | rfl | omega), by ((try simp (disch := first | assumption | omega) only [go_sem, seval, *]) <;> first | rfl | omega), by ((try simp (disch := first | assumption | omega) only [go_sem, seval, *]) <;> first | rfl | omega)⟩ ?_
  rintro m env s' ⟨i, hi, hm, hall, rfl, e0, e1, e7, e8⟩
  by_cases hlt : i < l.length
  · obtain ⟨x, hx⟩ : ∃ x, l[i]? = some x := ⟨_, List.getElem?_eq_getElem hlt⟩
    have hsx : (intsV l)[i]? = some [.int .i64 x] := by simp [intsV, hx]
    have htake : l.take (i + 1) = l.take i ++ [x] := by rw [List.take_add_one, hx]; rfl
    by_cases hnx : n = x
    · subst hnx
      have hres := ixI_at hall hx
      clear hall htake hx
      (repeat' (first
        | with_reducible first | refine L_seq ?_ | refine L_blk ?_ | refine L_skip ?_ | refine L_endblk ?_ | refine L_ret ?_ | refine L_exit ?_ | refine X_code ?_ | refine X_back ?_ | refine X_blk ?_ | refine X_past (by decide) ?_ | refine L_back ?_
        | ((with_reducible refine Kof.use hK ?_); clear hK hE K E)
        | ((with_reducible refine Eof.use hE ?_); (try clear hK hE K E))
        | ((with_reducible refine W_cond (fun h => ?_) (fun h => ?_)) <;> (try (exfalso; first | assumption | omega)))
        | ((with_reducible first | refine G_region fun K E hK hE => ?_ | refine W_if ?_ | refine W_ifS ?_ | refine W_and ?_) <;> (try simp (disch := first | assumption | omega) only [go_sem, seval, hsl, hsx, *]))
        | ((with_reducible refine W_fresh (fun b hb => ?_)); (repeat (obtain ⟨_, hb⟩ := hb)); (try simp (disch := first | assumption | omega) only [go_sem, seval, hsl, hsx, *]))
        | ((with_reducible refine W_app (fun o2 ho => ?_)); (try simp (disch := assumption) only [disown_set, disown_own, ownok_o, ownok_m, List.length_map, List.length_cons, List.length_nil, Nat.zero_add, hsl, hsx] at ho); (repeat (obtain ⟨_, ho⟩ := ho)); (try simp (disch := first | assumption | omega) only [go_sem, seval, hsl, hsx, *]))
        | ((with_reducible refine W_gd (fun h => ?_) (fun h => ?_)) <;> (try (exfalso; first | assumption | omega)) <;> (try simp (disch := first | assumption | omega) only [go_sem, seval, hsl, hsx, *]))))
      all_goals (first | refine G_ret hQ (by simp (disch := first | assumption | omega) only [res80, go_sem, seval, *] <;> rfl) ?_ | refine G_norm hQ (by simp (disch := first | assumption | omega) only [res80, go_sem, seval, *] <;> rfl) ?_ | refine G_pan hQ ?_)
      all_goals (refine ⟨_, _, Wk.of_eq ?_, ?_, rfl, rfl⟩)
      all_goals first | ((try dsimp only); (repeat (first | exact Fg.refl _ | exact Fg.own (by assumption) | (refine Fg.set ?_ _ _) | (refine Fg.setA ?_ (by first | assumption | (simp (disch := assumption) only [own_rd, St.set, if_false, if_true, *]; done))) )); done) | (rw [hres]; done)
    · have hall2 : ∀ y, y ∈ l.take (i + 1) → ¬ n = y := fun y hy => by
        rw [htake] at hy
        rcases List.mem_append.1 hy with hy | hy
        · exact hall y hy
        · rw [List.mem_singleton] at hy; subst hy; exact hnx
      clear hall htake hx
      (repeat' (first
        | with_reducible first | refine L_seq ?_ | refine L_blk ?_ | refine L_skip ?_ | refine L_endblk ?_ | refine L_ret ?_ | refine L_exit ?_ | refine X_code ?_ | refine X_back ?_ | refine X_blk ?_ | refine X_past (by decide) ?_ | refine L_back ?_
        | ((with_reducible refine Kof.use hK ?_); clear hK hE K E)
        | ((with_reducible refine Eof.use hE ?_); (try clear hK hE K E))
        | ((with_reducible refine W_cond (fun h => ?_) (fun h => ?_)) <;> (try (exfalso; first | assumption | omega)))
        | ((with_reducible first | refine G_region fun K E hK hE => ?_ | refine W_if ?_ | refine W_ifS ?_ | refine W_and ?_) <;> (try simp (disch := first | assumption | omega) only [go_sem, seval, hsl, hsx, *]))
        | ((with_reducible refine W_fresh (fun b hb => ?_)); (repeat (obtain ⟨_, hb⟩ := hb)); (try simp (disch := first | assumption | omega) only [go_sem, seval, hsl, hsx, *]))
        | ((with_reducible refine W_app (fun o2 ho => ?_)); (try simp (disch := assumption) only [disown_set, disown_own, ownok_o, ownok_m, List.length_map, List.length_cons, List.length_nil, Nat.zero_add, hsl, hsx] at ho); (repeat (obtain ⟨_, ho⟩ := ho)); (try simp (disch := first | assumption | omega) only [go_sem, seval, hsl, hsx, *]))
        | ((with_reducible refine W_gd (fun h => ?_) (fun h => ?_)) <;> (try (exfalso; first | assumption | omega)) <;> (try simp (disch := first | assumption | omega) only [go_sem, seval, hsl, hsx, *]))))
      all_goals exact ⟨m - 1, by omega, i + 1, by omega, by omega, hall2, rfl, by ((try simp (disch := first | assumption | omega) only [go_sem, seval, *]) <;> first | rfl | omega), by ((try simp (disch := first | assumption | omega) only [go_sem, seval, *]) <;> first | rfl | omega), by ((try simp (disch := first | assumption | omega) only [go_sem, seval, *]) <;> first | rfl | omega), by ((try simp (disch := first | assumption | omega) only [go_sem, seval, *]) <;> first | rfl | omega)⟩
  · have hres : ixI n l = -1 := ixI_none (by
      have : l.take i = l := List.take_of_length_le (by omega)
      rw [this] at hall
      exact hall)
    clear hall
    (repeat' (first
      | with_reducible first | refine L_seq ?_ | refine L_blk ?_ | refine L_skip ?_ | refine L_endblk ?_ | refine L_ret ?_ | refine L_exit ?_ | refine X_code ?_ | refine X_back ?_ | refine X_blk ?_ | refine X_past (by decide) ?_ | refine L_back ?_
      | ((with_reducible refine Kof.use hK ?_); clear hK hE K E)
      | ((with_reducible refine Eof.use hE ?_); (try clear hK hE K E))
      | ((with_reducible refine W_cond (fun h => ?_) (fun h => ?_)) <;> (try (exfalso; first | assumption | omega)))
      | ((with_reducible first | refine G_region fun K E hK hE => ?_ | refine W_if ?_ | refine W_ifS ?_ | refine W_and ?_) <;> (try simp (disch := first | assumption | omega) only [go_sem, seval, hsl, *]))
      | ((with_reducible refine W_fresh (fun b hb => ?_)); (repeat (obtain ⟨_, hb⟩ := hb)); (try simp (disch := first | assumption | omega) only [go_sem, seval, hsl, *]))
      | ((with_reducible refine W_app (fun o2 ho => ?_)); (try simp (disch := assumption) only [disown_set, disown_own, ownok_o, ownok_m, List.length_map, List.length_cons, List.length_nil, Nat.zero_add, hsl] at ho); (repeat (obtain ⟨_, ho⟩ := ho)); (try simp (disch := first | assumption | omega) only [go_sem, seval, hsl, *]))
      | ((with_reducible refine W_gd (fun h => ?_) (fun h => ?_)) <;> (try (exfalso; first | assumption | omega)) <;> (try simp (disch := first | assumption | omega) only [go_sem, seval, hsl, *]))))
    all_goals (first | refine G_ret hQ (by simp (disch := first | assumption | omega) only [res80, go_sem, seval, *] <;> rfl) ?_ | refine G_norm hQ (by simp (disch := first | assumption | omega) only [res80, go_sem, seval, *] <;> rfl) ?_ | refine G_pan hQ ?_)
    all_goals (refine ⟨_, _, Wk.of_eq ?_, ?_, rfl, rfl⟩)
    all_goals first | ((try dsimp only); (repeat (first | exact Fg.refl _ | exact Fg.own (by assumption) | (refine Fg.set ?_ _ _) | (refine Fg.setA ?_ (by first | assumption | (simp (disch := assumption) only [own_rd, St.set, if_false, if_true, *]; done))) )); done) | (rw [hres]; done)
theorem contI_S (l : List Int) (o : Own) (n : Int) (hn : l.length ≤ 9223372036854775000) (s : St) : SRet Tryd.prog 68 [.lst (intsV l) o, .int .i64 n] s (.bool (l.contains n)) s := by
  have h1 := ixI_S l o n hn
  have h2 := ixI_any n l
  refine G_enter Tryd.func68 rfl Tryd.ntmps68 rfl fun Q hQ hQe => ?_
  (repeat' (first
    | with_reducible first | refine L_seq ?_ | refine L_blk ?_ | refine L_skip ?_ | refine L_endblk ?_ | refine L_ret ?_ | refine L_exit ?_ | refine X_code ?_ | refine X_back ?_ | refine X_blk ?_ | refine X_past (by decide) ?_ | refine L_back ?_
    | ((with_reducible refine Kof.use hK ?_); clear hK hE K E)
    | ((with_reducible refine Eof.use hE ?_); (try clear hK hE K E))
    | ((with_reducible refine W_cond (fun h => ?_) (fun h => ?_)) <;> (try (exfalso; first | assumption | omega)))
    | ((with_reducible first | refine G_region fun K E hK hE => ?_ | refine call_ret can80 (h1 _) ?_ | refine W_if ?_ | refine W_ifS ?_ | refine W_and ?_) <;> (try simp (disch := first | assumption | omega) only [go_sem, seval, *]))
    | ((with_reducible refine W_fresh (fun b hb => ?_)); (repeat (obtain ⟨_, hb⟩ := hb)); (try simp (disch := first | assumption | omega) only [go_sem, seval, *]))
    | ((with_reducible refine W_app (fun o2 ho => ?_)); (repeat (obtain ⟨_, ho⟩ := ho)); (try simp (disch := first | assumption | omega) only [go_sem, seval, *]))
    | ((with_reducible refine W_gd (fun h => ?_) (fun h => ?_)) <;> (try (exfalso; first | assumption | omega)) <;> (try simp (disch := first | assumption | omega) only [go_sem, seval, *]))))
  all_goals (first | refine G_ret hQ (by simp (disch := first | assumption | omega) only [res68, go_sem, seval, *] <;> rfl) ?_ | refine G_norm hQ (by simp (disch := first | assumption | omega) only [res68, go_sem, seval, *] <;> rfl) ?_ | refine G_pan hQ ?_)
  all_goals (refine ⟨_, _, Wk.of_eq ?_, ?_, rfl, rfl⟩)
  all_goals first | ((try dsimp only); (repeat (first | exact Fg.refl _ | exact Fg.own (by assumption) | (refine Fg.set ?_ _ _) | (refine Fg.setA ?_ (by first | assumption | (simp (disch := assumption) only [own_rd, St.set, if_false, if_true, *]; done))) )); done) | rfl
def nextB (ks : List Int) : List Sgn → Bool
  | [] => false
  | x :: _ => ks.contains (x.kind : Int)
theorem unext_S (s : St) (r e : Nat) (L : List Sgn) (ks : List Int) (o : Own) (hk : ks.length ≤ 1000) : SRet Tryd.prog 48 [.ptr r 0, .lst (intsV ks) o] (Ru s r e L) (.bool (nextB ks L)) (Ru s r e L) := by
  have hk2 : ks.length ≤ 9223372036854775000 := by omega
  refine G_enter Tryd.func48 rfl Tryd.ntmps48 rfl fun Q hQ hQe => ?_
  cases L with
  | nil =>
    (repeat' (first
      | with_reducible first | refine L_seq ?_ | refine L_blk ?_ | refine L_skip ?_ | refine L_endblk ?_ | refine L_ret ?_ | refine L_exit ?_ | refine X_code ?_ | refine X_back ?_ | refine X_blk ?_ | refine X_past (by decide) ?_ | refine L_back ?_
      | ((with_reducible refine Kof.use hK ?_); clear hK hE K E)
      | ((with_reducible refine Eof.use hE ?_); (try clear hK hE K E))
      | ((with_reducible refine W_cond (fun h => ?_) (fun h => ?_)) <;> (try (exfalso; first | assumption | omega)))
      | ((with_reducible first | refine G_region fun K E hK hE => ?_ | refine call_ret can68 (contI_S _ _ _ (by first | assumption | omega) _) ?_ | refine W_if ?_ | refine W_ifS ?_ | refine W_and ?_) <;> (try simp (disch := first | assumption | omega) only [go_sem, seval, List.map_nil, *]))
      | ((with_reducible refine W_fresh (fun b hb => ?_)); (repeat (obtain ⟨_, hb⟩ := hb)); (try simp (disch := first | assumption | omega) only [go_sem, seval, List.map_nil, *]))
      | ((with_reducible refine W_app (fun o2 ho => ?_)); (try simp (disch := assumption) only [disown_set, disown_own, ownok_o, ownok_m, List.length_map, List.length_cons, List.length_nil, Nat.zero_add, List.map_nil] at ho); (repeat (obtain ⟨_, ho⟩ := ho)); (try simp (disch := first | assumption | omega) only [go_sem, seval, List.map_nil, *]))
      | ((with_reducible refine W_gd (fun h => ?_) (fun h => ?_)) <;> (try (exfalso; first | assumption | omega)) <;> (try simp (disch := first | assumption | omega) only [go_sem, seval, List.map_nil, *]))))
    all_goals (first | refine G_ret hQ (by simp (disch := first | assumption | omega) only [res48, go_sem, seval, *] <;> rfl) ?_ | refine G_norm hQ (by simp (disch := first | assumption | omega) only [res48, go_sem, seval, *] <;> rfl) ?_ | refine G_pan hQ ?_)
    all_goals (refine ⟨_, _, Wk.of_eq ?_, ?_, rfl, rfl⟩)
    all_goals first | ((try dsimp only); (repeat (first | exact Fg.refl _ | exact Fg.own (by assumption) | (refine Fg.set ?_ _ _) | (refine Fg.setA ?_ (by first | assumption | (simp (disch := assumption) only [own_rd, St.set, if_false, if_true, *]; done))) )); done) | rfl
  | cons x L =>
    have hl : (L.map sgnC).length = L.length := by simp
    (repeat' (first
      | with_reducible first | refine L_seq ?_ | refine L_blk ?_ | refine L_skip ?_ | refine L_endblk ?_ | refine L_ret ?_ | refine L_exit ?_ | refine X_code ?_ | refine X_back ?_ | refine X_blk ?_ | refine X_past (by decide) ?_ | refine L_back ?_
      | ((with_reducible refine Kof.use hK ?_); clear hK hE K E)
      | ((with_reducible refine Eof.use hE ?_); (try clear hK hE K E))
      | ((with_reducible refine W_cond (fun h => ?_) (fun h => ?_)) <;> (try (exfalso; first | assumption | omega)))
      | ((with_reducible first | refine G_region fun K E hK hE => ?_ | refine call_ret can68 (contI_S _ _ _ (by first | assumption | omega) _) ?_ | refine W_if ?_ | refine W_ifS ?_ | refine W_and ?_) <;> (try simp (disch := first | assumption | omega) only [go_sem, seval, List.map_cons, sgnC, hl, *]))
      | ((with_reducible refine W_fresh (fun b hb => ?_)); (repeat (obtain ⟨_, hb⟩ := hb)); (try simp (disch := first | assumption | omega) only [go_sem, seval, List.map_cons, sgnC, hl, *]))
      | ((with_reducible refine W_app (fun o2 ho => ?_)); (try simp (disch := assumption) only [disown_set, disown_own, ownok_o, ownok_m, List.length_map, List.length_cons, List.length_nil, Nat.zero_add, List.map_cons, sgnC, hl] at ho); (repeat (obtain ⟨_, ho⟩ := ho)); (try simp (disch := first | assumption | omega) only [go_sem, seval, List.map_cons, sgnC, hl, *]))
      | ((with_reducible refine W_gd (fun h => ?_) (fun h => ?_)) <;> (try (exfalso; first | assumption | omega)) <;> (try simp (disch := first | assumption | omega) only [go_sem, seval, List.map_cons, sgnC, hl, *]))))
    all_goals (first | refine G_ret hQ (by simp (disch := first | assumption | omega) only [res48, go_sem, seval, *] <;> rfl) ?_ | refine G_norm hQ (by simp (disch := first | assumption | omega) only [res48, go_sem, seval, *] <;> rfl) ?_ | refine G_pan hQ ?_)
    all_goals (refine ⟨_, _, Wk.of_eq ?_, ?_, rfl, rfl⟩)
    all_goals first | ((try dsimp only); (repeat (first | exact Fg.refl _ | exact Fg.own (by assumption) | (refine Fg.set ?_ _ _) | (refine Fg.setA ?_ (by first | assumption | (simp (disch := assumption) only [own_rd, St.set, if_false, if_true, *]; done))) )); done) | rfl
/-- What is asked of signs: that numbers can be read. -/
def GoodU (L : List Sgn) : Prop := ∀ x, x ∈ L → x.kind = 2 → ∃ n : Nat, Lib.atoi x.text = some (n : Int) ∧ x.text.length ≤ 18
def numN (t : List UInt8) : Nat := ((Lib.atoi t).getD 0).toNat
def numU (e : Nat) (L : List Sgn) : PU Nat := bu (kindU e L 2) fun t L => .ok (numN t, L)
theorem unum_S (s : St) (r e : Nat) (L : List Sgn) (hG : GoodU L) : SCalls Tryd.prog 45 [.ptr r 0] (Ru s r e L) (PW (fun n => .int .i64 (n : Nat)) s r e (numU e L)) := by
  have h1 := ukind_S s r e L 2
  have hg : ∀ t L', kindU e L 2 = .ok (t, L') → ∃ n : Nat, Lib.atoi t = some (n : Int) ∧ t.length ≤ 18 := fun t L' h => by
    cases L with
    | nil => cases h
    | cons x L =>
      simp only [kindU] at h
      split at h
      · rename_i hk; injection h with h; injection h with h2 h3; subst h2; exact hG x (by simp) hk
      · cases h
  have HG := Lib.hid hg
  clear hg
  refine G_enter Tryd.func45 rfl Tryd.ntmps45 rfl fun Q hQ hQe => ?_
  cases hx : kindU e L 2 with
  | error q =>
    rw [hx] at h1
    (repeat' (first
      | with_reducible first | refine L_seq ?_ | refine L_blk ?_ | refine L_skip ?_ | refine L_endblk ?_ | refine L_ret ?_ | refine L_exit ?_ | refine X_code ?_ | refine X_back ?_ | refine X_blk ?_ | refine X_past (by decide) ?_ | refine L_back ?_
      | ((with_reducible refine Kof.use hK ?_); clear hK hE K E)
      | ((with_reducible refine Eof.use hE ?_); (try clear hK hE K E))
      | ((with_reducible refine W_cond (fun h => ?_) (fun h => ?_)) <;> (try (exfalso; first | assumption | omega)))
      | ((with_reducible first | refine G_region fun K E hK hE => ?_ | refine call_ret can67 (Atoi_S _ _ (by first | assumption | omega) (by assumption) _) ?_ | refine W_if ?_ | refine W_ifS ?_ | refine W_and ?_) <;> (try simp (disch := first | assumption | omega) only [go_sem, seval, *]))
      | ((with_reducible refine call_pw can66 (h1) (fun a Lx h => ?_) (fun at_ er Lx h => ?_)) <;> (try simp (disch := first | assumption | omega) only [go_sem, seval, *]))
      | ((with_reducible refine call_pw can66 (ukind_S _ _ _ _ _) (fun a Lx h => ?_) (fun at_ er Lx h => ?_)) <;> (try simp (disch := first | assumption | omega) only [go_sem, seval, *]))
      | ((with_reducible refine W_fresh (fun b hb => ?_)); (repeat (obtain ⟨_, hb⟩ := hb)); (try simp (disch := first | assumption | omega) only [go_sem, seval, *]))
      | ((with_reducible refine W_app (fun o2 ho => ?_)); (repeat (obtain ⟨_, ho⟩ := ho)); (try simp (disch := first | assumption | omega) only [go_sem, seval, *]))
      | ((with_reducible refine W_gd (fun h => ?_) (fun h => ?_)) <;> (try (exfalso; first | assumption | omega)) <;> (try simp (disch := first | assumption | omega) only [go_sem, seval, *]))))
    all_goals first
      | (cases h; done)
      | (refine G_pan hQ ?_
         cases h
         exact ⟨_, Fg.refl _, by simp only [numU, hx]; exact ⟨rfl, _, rfl⟩⟩)
  | ok q =>
    obtain ⟨t, L'⟩ := q
    obtain ⟨n, hn1, hn2⟩ := HG t L' hx
    rw [hx] at h1
    have h3 := Atoi_S t (n : Int) hn2 hn1
    have h1r := h1.ret
    have hv : numN t = n := by simp [numN, hn1]
    clear h1
    (repeat' (first
      | with_reducible first | refine L_seq ?_ | refine L_blk ?_ | refine L_skip ?_ | refine L_endblk ?_ | refine L_ret ?_ | refine L_exit ?_ | refine X_code ?_ | refine X_back ?_ | refine X_blk ?_ | refine X_past (by decide) ?_ | refine L_back ?_
      | ((with_reducible refine Kof.use hK ?_); clear hK hE K E)
      | ((with_reducible refine Eof.use hE ?_); (try clear hK hE K E))
      | ((with_reducible refine W_cond (fun h => ?_) (fun h => ?_)) <;> (try (exfalso; first | assumption | omega)))
      | ((with_reducible first | refine G_region fun K E hK hE => ?_ | refine call_ret can66 (h1r) ?_ | refine call_ret can67 (h3 _) ?_ | refine call_ret can67 (Atoi_S _ _ (by first | assumption | omega) (by assumption) _) ?_ | refine W_if ?_ | refine W_ifS ?_ | refine W_and ?_) <;> (try simp (disch := first | assumption | omega) only [go_sem, seval, *]))
      | ((with_reducible refine call_pw can66 (ukind_S _ _ _ _ _) (fun a Lx h => ?_) (fun at_ er Lx h => ?_)) <;> (try simp (disch := first | assumption | omega) only [go_sem, seval, *]))
      | ((with_reducible refine W_fresh (fun b hb => ?_)); (repeat (obtain ⟨_, hb⟩ := hb)); (try simp (disch := first | assumption | omega) only [go_sem, seval, *]))
      | ((with_reducible refine W_app (fun o2 ho => ?_)); (repeat (obtain ⟨_, ho⟩ := ho)); (try simp (disch := first | assumption | omega) only [go_sem, seval, *]))
      | ((with_reducible refine W_gd (fun h => ?_) (fun h => ?_)) <;> (try (exfalso; first | assumption | omega)) <;> (try simp (disch := first | assumption | omega) only [go_sem, seval, *]))))
    all_goals (first | refine G_ret hQ (by simp (disch := first | assumption | omega) only [res45, go_sem, seval, *] <;> rfl) ?_ | refine G_norm hQ (by simp (disch := first | assumption | omega) only [res45, go_sem, seval, *] <;> rfl) ?_ | refine G_pan hQ ?_)
    all_goals exact ⟨_, _, Wk.refl _, Fg.refl _, by simp only [numU, hx, bu_ok, hv]; exact ⟨rfl, rfl⟩⟩
/-- A term. -/
structure Trm where
  var : Bool
  nm : List UInt8
  n : Int
def trmC (t : Trm) : List VV := [.bool t.var, .str t.nm, .int .i64 t.n]
def isNum : List Sgn → Bool
  | [] => false
  | x :: _ => decide (x.kind = 2)
def termU (e : Nat) (L : List Sgn) : PU Trm := if isNum L = true then bu (numU e L) fun n L => .ok (⟨false, [], (n : Int)⟩, L) else bu (nameU e L) fun t L => .ok (⟨true, t, 0⟩, L)
theorem Ru_free {s : St} {r e b : Nat} {L : List Sgn} : ((Ru s r e L) b = .free) = (¬ b = r ∧ ¬ r = b ∧ s b = .free) := set_free_o
theorem Ru_set {s : St} {r e b : Nat} {L : List Sgn} {c : Cell} (h : ¬ b = r) : (Ru s r e L).set b c = Ru (s.set b c) r e L := by
  funext x
  simp only [Ru, St.set]
  by_cases h1 : x = b
  · subst h1; simp [h]
  · simp [h1]
attribute [local go_sem] Ru_free Ru_set Ru_gt
theorem uterm_S (s : St) (r e : Nat) (L : List Sgn) (hG : GoodU L) : SCalls Tryd.prog 82 [.ptr r 0] (Ru s r e L) (PW (fun t => .agg (trmC t)) s r e (termU e L)) := by
  have h1 := fun s => unum_S s r e L hG
  have h2 := fun s => uname_S s r e L
  have hnum : ∀ x L', L = x :: L' → isNum L = decide ((x.kind : Int) = 2) := fun x L' h => by subst h; simp only [isNum]; by_cases h : x.kind = 2 <;> simp [h] <;> omega
  have HN := Lib.hid hnum
  clear hnum hG
  refine G_enter Tryd.func82 rfl Tryd.ntmps82 rfl fun Q hQ hQe => ?_
  cases hi : isNum L with
  | true =>
    cases L with
    | nil => cases hi
    | cons x L =>
      have hx : ((x.kind : Int) = 2) = True := by have := HN x L rfl; rw [hi] at this; exact eq_true (of_decide_eq_true this.symm)
      have hl : (L.map sgnC).length = L.length := by simp
      cases hr : numU e (x :: L) with
      | error q =>
        have HI := Lib.hid hi
        have HR := Lib.hid hr
        rw [hr] at h1
        clear hi hr
        (repeat' (first
          | with_reducible first | refine L_seq ?_ | refine L_blk ?_ | refine L_skip ?_ | refine L_endblk ?_ | refine L_ret ?_ | refine L_exit ?_ | refine X_code ?_ | refine X_back ?_ | refine X_blk ?_ | refine X_past (by decide) ?_ | refine L_back ?_
          | ((with_reducible refine Kof.use hK ?_); clear hK hE K E)
          | ((with_reducible refine Eof.use hE ?_); (try clear hK hE K E))
          | ((with_reducible refine W_cond (fun h => ?_) (fun h => ?_)) <;> (try (exfalso; first | assumption | omega)))
          | ((with_reducible first | refine G_region fun K E hK hE => ?_ | refine W_if ?_ | refine W_ifS ?_ | refine W_and ?_) <;> (try simp (disch := first | assumption | omega) only [go_sem, seval, List.map_cons, sgnC, hl, *]))
          | ((with_reducible refine call_pw can45 (h1 _) (fun a Lx h => ?_) (fun at_ er Lx h => ?_)) <;> (try simp (disch := first | assumption | omega) only [go_sem, seval, List.map_cons, sgnC, hl, *]))
          | ((with_reducible refine call_pw can44 (uname_S _ _ _ _) (fun a Lx h => ?_) (fun at_ er Lx h => ?_)) <;> (try simp (disch := first | assumption | omega) only [go_sem, seval, List.map_cons, sgnC, hl, *]))
          | ((with_reducible refine call_pw can45 (unum_S _ _ _ _ (by assumption)) (fun a Lx h => ?_) (fun at_ er Lx h => ?_)) <;> (try simp (disch := first | assumption | omega) only [go_sem, seval, List.map_cons, sgnC, hl, *]))
          | ((with_reducible refine W_fresh (fun b hb => ?_)); (repeat (obtain ⟨_, hb⟩ := hb)); (try simp (disch := first | assumption | omega) only [go_sem, seval, List.map_cons, sgnC, hl, *]))
          | ((with_reducible refine W_app (fun o2 ho => ?_)); (try simp (disch := assumption) only [disown_set, disown_own, ownok_o, ownok_m, List.length_map, List.length_cons, List.length_nil, Nat.zero_add, List.map_cons, sgnC, hl] at ho); (repeat (obtain ⟨_, ho⟩ := ho)); (try simp (disch := first | assumption | omega) only [go_sem, seval, List.map_cons, sgnC, hl, *]))
          | ((with_reducible refine W_gd (fun h => ?_) (fun h => ?_)) <;> (try (exfalso; first | assumption | omega)) <;> (try simp (disch := first | assumption | omega) only [go_sem, seval, List.map_cons, sgnC, hl, *]))))
        all_goals first
          | (cases h; done)
          | (refine G_pan hQ ?_
             cases h
             exact ⟨Ru s r e _, by ((try dsimp only); (repeat (first | exact Fg.refl _ | exact Fg.own (by assumption) | (refine Fg.set ?_ _ _) | (refine Fg.setA ?_ (by first | assumption | (simp (disch := assumption) only [own_rd, St.set, if_false, if_true, *]; done))) )); done), by simp only [termU, show isNum (x :: L) = true from HI, if_true, show numU e (x :: L) = _ from HR]; exact ⟨rfl, _, rfl⟩⟩)
      | ok q =>
        obtain ⟨n, L'⟩ := q
        have HI := Lib.hid hi
        have HR := Lib.hid hr
        rw [hr] at h1
        have h1r := fun s => (h1 s).ret
        clear hi hr h1
        (repeat' (first
          | with_reducible first | refine L_seq ?_ | refine L_blk ?_ | refine L_skip ?_ | refine L_endblk ?_ | refine L_ret ?_ | refine L_exit ?_ | refine X_code ?_ | refine X_back ?_ | refine X_blk ?_ | refine X_past (by decide) ?_ | refine L_back ?_
          | ((with_reducible refine Kof.use hK ?_); clear hK hE K E)
          | ((with_reducible refine Eof.use hE ?_); (try clear hK hE K E))
          | ((with_reducible refine W_cond (fun h => ?_) (fun h => ?_)) <;> (try (exfalso; first | assumption | omega)))
          | ((with_reducible first | refine G_region fun K E hK hE => ?_ | refine call_ret can45 (h1r _) ?_ | refine W_if ?_ | refine W_ifS ?_ | refine W_and ?_) <;> (try simp (disch := first | assumption | omega) only [go_sem, seval, List.map_cons, sgnC, hl, *]))
          | ((with_reducible refine call_pw can44 (uname_S _ _ _ _) (fun a Lx h => ?_) (fun at_ er Lx h => ?_)) <;> (try simp (disch := first | assumption | omega) only [go_sem, seval, List.map_cons, sgnC, hl, *]))
          | ((with_reducible refine call_pw can45 (unum_S _ _ _ _ (by assumption)) (fun a Lx h => ?_) (fun at_ er Lx h => ?_)) <;> (try simp (disch := first | assumption | omega) only [go_sem, seval, List.map_cons, sgnC, hl, *]))
          | ((with_reducible refine W_fresh (fun b hb => ?_)); (repeat (obtain ⟨_, hb⟩ := hb)); (try simp (disch := first | assumption | omega) only [go_sem, seval, List.map_cons, sgnC, hl, *]))
          | ((with_reducible refine W_app (fun o2 ho => ?_)); (try simp (disch := assumption) only [disown_set, disown_own, ownok_o, ownok_m, List.length_map, List.length_cons, List.length_nil, Nat.zero_add, List.map_cons, sgnC, hl] at ho); (repeat (obtain ⟨_, ho⟩ := ho)); (try simp (disch := first | assumption | omega) only [go_sem, seval, List.map_cons, sgnC, hl, *]))
          | ((with_reducible refine W_gd (fun h => ?_) (fun h => ?_)) <;> (try (exfalso; first | assumption | omega)) <;> (try simp (disch := first | assumption | omega) only [go_sem, seval, List.map_cons, sgnC, hl, *]))))
        all_goals (first | refine G_ret hQ (by simp (disch := first | assumption | omega) only [res82, go_sem, seval, *] <;> rfl) ?_ | refine G_norm hQ (by simp (disch := first | assumption | omega) only [res82, go_sem, seval, *] <;> rfl) ?_ | refine G_pan hQ ?_)
        all_goals exact ⟨_, Ru s r e _, Wk.refl _, by ((try dsimp only); (repeat (first | exact Fg.refl _ | exact Fg.own (by assumption) | (refine Fg.set ?_ _ _) | (refine Fg.setA ?_ (by first | assumption | (simp (disch := assumption) only [own_rd, St.set, if_false, if_true, *]; done))) )); done), by simp only [termU, show isNum (x :: L) = true from HI, if_true, show numU e (x :: L) = _ from HR, bu_ok]; exact ⟨rfl, rfl⟩⟩
  | false =>
    have hc : ∀ x L', L = x :: L' → ¬ (x.kind : Int) = 2 := fun x L' h => by have := HN x L' h; rw [hi] at this; exact of_decide_eq_false this.symm
    have HC := Lib.hid hc
    have HI := Lib.hid hi
    clear hc hi
    cases hr : nameU e L with
    | error q =>
      have HR := Lib.hid hr
      rw [hr] at h2
      clear hr
      cases L with
      | nil =>
        (repeat' (first
          | with_reducible first | refine L_seq ?_ | refine L_blk ?_ | refine L_skip ?_ | refine L_endblk ?_ | refine L_ret ?_ | refine L_exit ?_ | refine X_code ?_ | refine X_back ?_ | refine X_blk ?_ | refine X_past (by decide) ?_ | refine L_back ?_
          | ((with_reducible refine Kof.use hK ?_); clear hK hE K E)
          | ((with_reducible refine Eof.use hE ?_); (try clear hK hE K E))
          | ((with_reducible refine W_cond (fun h => ?_) (fun h => ?_)) <;> (try (exfalso; first | assumption | omega)))
          | ((with_reducible first | refine G_region fun K E hK hE => ?_ | refine W_if ?_ | refine W_ifS ?_ | refine W_and ?_) <;> (try simp (disch := first | assumption | omega) only [go_sem, seval, List.map_nil, *]))
          | ((with_reducible refine call_pw can44 (h2 _) (fun a Lx h => ?_) (fun at_ er Lx h => ?_)) <;> (try simp (disch := first | assumption | omega) only [go_sem, seval, List.map_nil, *]))
          | ((with_reducible refine call_pw can44 (uname_S _ _ _ _) (fun a Lx h => ?_) (fun at_ er Lx h => ?_)) <;> (try simp (disch := first | assumption | omega) only [go_sem, seval, List.map_nil, *]))
          | ((with_reducible refine call_pw can45 (unum_S _ _ _ _ (by assumption)) (fun a Lx h => ?_) (fun at_ er Lx h => ?_)) <;> (try simp (disch := first | assumption | omega) only [go_sem, seval, List.map_nil, *]))
          | ((with_reducible refine W_fresh (fun b hb => ?_)); (repeat (obtain ⟨_, hb⟩ := hb)); (try simp (disch := first | assumption | omega) only [go_sem, seval, List.map_nil, *]))
          | ((with_reducible refine W_app (fun o2 ho => ?_)); (try simp (disch := assumption) only [disown_set, disown_own, ownok_o, ownok_m, List.length_map, List.length_cons, List.length_nil, Nat.zero_add, List.map_nil] at ho); (repeat (obtain ⟨_, ho⟩ := ho)); (try simp (disch := first | assumption | omega) only [go_sem, seval, List.map_nil, *]))
          | ((with_reducible refine W_gd (fun h => ?_) (fun h => ?_)) <;> (try (exfalso; first | assumption | omega)) <;> (try simp (disch := first | assumption | omega) only [go_sem, seval, List.map_nil, *]))))
        all_goals first
          | (cases h; done)
          | (refine G_pan hQ ?_
             cases h
             exact ⟨Ru s r e _, by ((try dsimp only); (repeat (first | exact Fg.refl _ | exact Fg.own (by assumption) | (refine Fg.set ?_ _ _) | (refine Fg.setA ?_ (by first | assumption | (simp (disch := assumption) only [own_rd, St.set, if_false, if_true, *]; done))) )); done), by simp only [termU, show isNum [] = false from HI, Bool.false_eq_true, if_false, show nameU e [] = _ from HR]; exact ⟨rfl, _, rfl⟩⟩)
      | cons x L =>
        have hx := HC x L rfl
        have hl : (L.map sgnC).length = L.length := by simp
        (repeat' (first
          | with_reducible first | refine L_seq ?_ | refine L_blk ?_ | refine L_skip ?_ | refine L_endblk ?_ | refine L_ret ?_ | refine L_exit ?_ | refine X_code ?_ | refine X_back ?_ | refine X_blk ?_ | refine X_past (by decide) ?_ | refine L_back ?_
          | ((with_reducible refine Kof.use hK ?_); clear hK hE K E)
          | ((with_reducible refine Eof.use hE ?_); (try clear hK hE K E))
          | ((with_reducible refine W_cond (fun h => ?_) (fun h => ?_)) <;> (try (exfalso; first | assumption | omega)))
          | ((with_reducible first | refine G_region fun K E hK hE => ?_ | refine W_if ?_ | refine W_ifS ?_ | refine W_and ?_) <;> (try simp (disch := first | assumption | omega) only [go_sem, seval, List.map_cons, sgnC, hl, *]))
          | ((with_reducible refine call_pw can44 (h2 _) (fun a Lx h => ?_) (fun at_ er Lx h => ?_)) <;> (try simp (disch := first | assumption | omega) only [go_sem, seval, List.map_cons, sgnC, hl, *]))
          | ((with_reducible refine call_pw can44 (uname_S _ _ _ _) (fun a Lx h => ?_) (fun at_ er Lx h => ?_)) <;> (try simp (disch := first | assumption | omega) only [go_sem, seval, List.map_cons, sgnC, hl, *]))
          | ((with_reducible refine call_pw can45 (unum_S _ _ _ _ (by assumption)) (fun a Lx h => ?_) (fun at_ er Lx h => ?_)) <;> (try simp (disch := first | assumption | omega) only [go_sem, seval, List.map_cons, sgnC, hl, *]))
          | ((with_reducible refine W_fresh (fun b hb => ?_)); (repeat (obtain ⟨_, hb⟩ := hb)); (try simp (disch := first | assumption | omega) only [go_sem, seval, List.map_cons, sgnC, hl, *]))
          | ((with_reducible refine W_app (fun o2 ho => ?_)); (try simp (disch := assumption) only [disown_set, disown_own, ownok_o, ownok_m, List.length_map, List.length_cons, List.length_nil, Nat.zero_add, List.map_cons, sgnC, hl] at ho); (repeat (obtain ⟨_, ho⟩ := ho)); (try simp (disch := first | assumption | omega) only [go_sem, seval, List.map_cons, sgnC, hl, *]))
          | ((with_reducible refine W_gd (fun h => ?_) (fun h => ?_)) <;> (try (exfalso; first | assumption | omega)) <;> (try simp (disch := first | assumption | omega) only [go_sem, seval, List.map_cons, sgnC, hl, *]))))
        all_goals first
          | (cases h; done)
          | (refine G_pan hQ ?_
             cases h
             exact ⟨Ru s r e _, by ((try dsimp only); (repeat (first | exact Fg.refl _ | exact Fg.own (by assumption) | (refine Fg.set ?_ _ _) | (refine Fg.setA ?_ (by first | assumption | (simp (disch := assumption) only [own_rd, St.set, if_false, if_true, *]; done))) )); done), by simp only [termU, show isNum (x :: L) = false from HI, Bool.false_eq_true, if_false, show nameU e (x :: L) = _ from HR]; exact ⟨rfl, _, rfl⟩⟩)
    | ok q =>
      obtain ⟨t, L'⟩ := q
      have HR := Lib.hid hr
      rw [hr] at h2
      have h2r := fun s => (h2 s).ret
      clear hr h2
      cases L with
      | nil => exact absurd (show nameU e [] = _ from HR) (by simp [nameU, kindU])
      | cons x L =>
        have hx := HC x L rfl
        have hl : (L.map sgnC).length = L.length := by simp
        (repeat' (first
          | with_reducible first | refine L_seq ?_ | refine L_blk ?_ | refine L_skip ?_ | refine L_endblk ?_ | refine L_ret ?_ | refine L_exit ?_ | refine X_code ?_ | refine X_back ?_ | refine X_blk ?_ | refine X_past (by decide) ?_ | refine L_back ?_
          | ((with_reducible refine Kof.use hK ?_); clear hK hE K E)
          | ((with_reducible refine Eof.use hE ?_); (try clear hK hE K E))
          | ((with_reducible refine W_cond (fun h => ?_) (fun h => ?_)) <;> (try (exfalso; first | assumption | omega)))
          | ((with_reducible first | refine G_region fun K E hK hE => ?_ | refine call_ret can44 (h2r _) ?_ | refine W_if ?_ | refine W_ifS ?_ | refine W_and ?_) <;> (try simp (disch := first | assumption | omega) only [go_sem, seval, List.map_cons, sgnC, hl, *]))
          | ((with_reducible refine call_pw can44 (uname_S _ _ _ _) (fun a Lx h => ?_) (fun at_ er Lx h => ?_)) <;> (try simp (disch := first | assumption | omega) only [go_sem, seval, List.map_cons, sgnC, hl, *]))
          | ((with_reducible refine call_pw can45 (unum_S _ _ _ _ (by assumption)) (fun a Lx h => ?_) (fun at_ er Lx h => ?_)) <;> (try simp (disch := first | assumption | omega) only [go_sem, seval, List.map_cons, sgnC, hl, *]))
          | ((with_reducible refine W_fresh (fun b hb => ?_)); (repeat (obtain ⟨_, hb⟩ := hb)); (try simp (disch := first | assumption | omega) only [go_sem, seval, List.map_cons, sgnC, hl, *]))
          | ((with_reducible refine W_app (fun o2 ho => ?_)); (try simp (disch := assumption) only [disown_set, disown_own, ownok_o, ownok_m, List.length_map, List.length_cons, List.length_nil, Nat.zero_add, List.map_cons, sgnC, hl] at ho); (repeat (obtain ⟨_, ho⟩ := ho)); (try simp (disch := first | assumption | omega) only [go_sem, seval, List.map_cons, sgnC, hl, *]))
          | ((with_reducible refine W_gd (fun h => ?_) (fun h => ?_)) <;> (try (exfalso; first | assumption | omega)) <;> (try simp (disch := first | assumption | omega) only [go_sem, seval, List.map_cons, sgnC, hl, *]))))
        all_goals (first | refine G_ret hQ (by simp (disch := first | assumption | omega) only [res82, go_sem, seval, *] <;> rfl) ?_ | refine G_norm hQ (by simp (disch := first | assumption | omega) only [res82, go_sem, seval, *] <;> rfl) ?_ | refine G_pan hQ ?_)
        all_goals exact ⟨_, Ru s r e _, Wk.refl _, by ((try dsimp only); (repeat (first | exact Fg.refl _ | exact Fg.own (by assumption) | (refine Fg.set ?_ _ _) | (refine Fg.setA ?_ (by first | assumption | (simp (disch := assumption) only [own_rd, St.set, if_false, if_true, *]; done))) )); done), by simp only [termU, show isNum (x :: L) = false from HI, Bool.false_eq_true, if_false, show nameU e (x :: L) = _ from HR, bu_ok]; exact ⟨rfl, rfl⟩⟩
end Go.Proofs.YtbfgdblebepgcaaDoor
