/- What is proved: That what is said of code holds of the model's: regions, sequences, blocks, loops, functions. Conditions: those that stand in the statements. -/
import Derived.Test.YtbfgdblebepgcaaDoorZSoundF
import Derived.Deep.LoopGhost
set_option linter.unusedSimpArgs false
set_option linter.unusedVariables false
set_option linter.unusedVariables false
namespace Go.Proofs.YtbfgdblebepgcaaDoor
open Go.RowKit

inductive Fin' where
  | norm
  | ret
  | exit (id : Nat)
  | panic (x : VV)
def RX (G : Gh) : Exit → Fin' → Prop
  | .normal, .norm => True
  | .ret, .ret => True
  | .exit i, .exit j => i = j
  | .panic ch, .panic x => ∃ v, ch = [{ v := v, recovered := false }] ∧ R G v x
  | _, _ => False
theorem RX.mono {G G' : Gh} (h : G.le G') {e : Exit} {f : Fin'} (r : RX G e f) : RX G' e f := by
  cases e <;> cases f <;> first | exact r | (obtain ⟨v, e, hv⟩ := r; exact ⟨v, e, hv.mono h⟩)

abbrev Pst := Fin' → Env → St → Prop

def Up (N : Nat) (w0 : World) (G : Gh) (D : List Deferred) (Q : Pst) : Exit → Act → World → Prop := fun e a w =>
  ∃ (G' : Gh) (f : Fin') (env : Env) (s : St), G.le G' ∧ RX G' e f ∧ FR N G' a.tmps env ∧ a.defers = D ∧ Sim w0 G' w s ∧ Q f env s
theorem Up.back {N : Nat} {w0 : World} {G G' : Gh} {D : List Deferred} {Q : Pst} (h : G.le G') {e : Exit} {a : Act} {w : World} (u : Up N w0 G' D Q e a w) : Up N w0 G D Q e a w := by
  obtain ⟨G'', f, env, s, h1, h2⟩ := u
  exact ⟨G'', f, env, s, h.trans h1, h2⟩

theorem Oper.wp_mono' {P : Program} {o : Oper} {a : Act} {w : World} {n n' : Act → World → Prop} {Q Q' : Exit → Act → World → Prop} (hn : ∀ a w, n a w → n' a w) (hQ : ∀ e a w, Q e a w → Q' e a w)
    (h : o.wp P a w n Q) : o.wp P a w n' Q' := by
  unfold Oper.wp at h ⊢
  generalize (execOp a.eval o).run P w = r at h ⊢
  unfold Oper.upon at h ⊢
  split at h
  · exact hn _ _ h
  · exact hn _ _ h
  · exact hn _ _ h
  · refine h.mono fun e w' he => ?_
    cases e with
    | returned v => exact hn _ _ he
    | panicked ch => exact hQ _ _ _ he
    | outgrown => obtain ⟨a, w, q⟩ := he; exact ⟨a, w, hQ _ _ _ q⟩
  · exact h.mono fun v w' he => hn _ _ he
  · exact hQ _ _ _ h
  · exact h.elim

section
variable {P : Program} {N : Nat} {D : List Deferred}

theorem vops_sound {all : List Oper} {K : Env → St → Prop} {E : VV → Env → St → Prop} {Q : Pst} (hK : ∀ env s, K env s → Q .norm env s) (hE : ∀ x env s, E x env s → Q (.panic x) env s) :
    ∀ (rest : List Oper) (env : Env) (s : St), vops P N all K E rest env s → ∀ (w0 : World) (G : Gh) (w : World) (a : Act), FR N G a.tmps env → a.defers = D → Sim w0 G w s →
      wpList P all.toArray (Up N w0 G D Q) rest a w
  | [], env, s, h, w0, G, w, a, hf, hD, hS => ⟨G, .norm, env, s, Gh.le.refl G, trivial, hf, hD, hS, hK env s h⟩
  | o :: rest, env, s, h, w0, G, w, a, hf, hD, hS => by
    have ih := vops_sound (all := all) hK hE rest
    have mono : ∀ (G' : Gh), G.le G' → ∀ (l : List Oper) (a : Act) (w : World), wpList P all.toArray (Up N w0 G' D Q) l a w → wpList P all.toArray (Up N w0 G D Q) l a w := by
      intro G' hG l
      induction l with
      | nil => exact fun a w h => Up.back hG h
      | cons o l ihl =>
        intro a w h
        unfold wpList at h ⊢
        split at h
        · rename_i hw
          rw [if_pos hw]
          rcases h with h | ⟨h1, a', w', h2⟩
          · exact .inl (Oper.wp_mono' ihl (fun e a w => Up.back hG) h)
          · exact .inr ⟨h1, a', w', Up.back hG h2⟩
        · rename_i hw
          rw [if_neg hw]
          exact ihl _ _ h
    have run : vstep P N E o (fun env s => vops P N all K E rest env s) env s → o.wp P a w (wpList P all.toArray (Up N w0 G D Q) rest) (Up N w0 G D Q) := by
      intro hst
      refine Oper.wp_mono' ?_ ?_ (step_sound hf hD hS hst)
      · rintro a' w' ⟨G', env', s', hG, hf', hD', hS', hk⟩
        exact mono G' hG _ _ _ (ih env' s' hk w0 G' w' a' hf' hD' hS')
      · rintro e a' w' ⟨G', env', s', v, x, rfl, hv, hG, hf', hD', hS', hk⟩
        exact ⟨G', .panic x, env', s', hG, ⟨v, rfl, hv⟩, hf', hD', hS', hE _ _ _ hk⟩
    have skip : vskip N o (fun env s => vops P N all K E rest env s) env s → wpList P all.toArray (Up N w0 G D Q) rest (a.put o.dst undef) w := by
      intro hsk
      exact ih _ _ hsk w0 G w _ (hf.put o.dst (.tup _ _ rfl (fun j v y hv => by simp at hv))) ((put_defers _ _ _).trans hD) hS
    unfold wpList
    simp only [vops] at h
    cases hg : o.guard with
    | none =>
      rw [if_pos (by simp [Region.wanted, hg])]
      rw [hg] at h
      exact .inl (run h)
    | some g =>
      obtain ⟨j, want⟩ := g
      rw [hg] at h
      simp only at h
      unfold yv at h
      cases hd : (all[j]?).bind (·.dst) with
      | none =>
        rw [hd] at h
        rw [if_neg (by simp [Region.wanted, hg, yielded, hd])]
        exact skip h
      | some t =>
        rw [hd] at h
        simp only at h
        have hr := hf.rel t
        cases he : env t with
        | bool b =>
          rw [he] at hr h
          generalize hv : a.tmps.getD t undef = v at hr
          cases hr
          have hy : yielded all.toArray a.tmps j = some b := by
            have hlt : t < a.tmps.size := by
              rcases Nat.lt_or_ge t a.tmps.size with h' | h'
              · exact h'
              · simp [Array.getD, Nat.not_lt.2 h', undef] at hv
            have : a.tmps[t]? = some (.bool b) := by
              simp [Array.getD, hlt] at hv
              simp [hlt, hv]
            simp [yielded, hd, this]
          simp only [vguard] at h
          by_cases hbw : b = want
          · rw [if_pos hbw] at h
            rw [if_pos (by simp [Region.wanted, hg, hy, hbw])]
            exact .inl (run h)
          · rw [if_neg hbw] at h
            rw [if_neg (by simp [Region.wanted, hg, hy, hbw])]
            exact skip h
        | tup xs =>
          rw [he] at hr h
          generalize hv : a.tmps.getD t undef = v at hr
          cases hr with
          | tup vs xs hs hR =>
            have hy : yielded all.toArray a.tmps j = none := by
              by_cases hlt : t < a.tmps.size
              · have : a.tmps[t]? = some (.tuple vs) := by
                  simp [Array.getD, hlt] at hv
                  simp [hlt, hv]
                simp [yielded, hd, this]
              · simp [yielded, hd, hlt]
            rw [if_neg (by simp [Region.wanted, hg, hy])]
            exact skip h
        | _ => rw [he] at h; exact h.elim

def SW (P : Program) (N : Nat) (D : List Deferred) (c : Code) (Q : Pst) (env : Env) (s : St) : Prop :=
  ∀ (w0 : World) (G : Gh) (w : World) (a : Act), FR N G a.tmps env → a.defers = D → Sim w0 G w s → c.wp P (Up N w0 G D Q) a w

inductive Itm where
  | code (c : Code)
  | blk (id : Nat)
  | back (I : Env → St → Prop)

/-- What is to be done yet. -/
def Kp (P : Program) (N : Nat) (D : List Deferred) : List Itm → Pst → Pst
  | [], Q => Q
  | .code c :: k, Q => fun f env s => match f with | .norm => SW P N D c (Kp P N D k Q) env s | f => Kp P N D k Q f env s
  | .blk id :: k, Q => fun f env s => match f with | .exit j => if j = id then Kp P N D k Q .norm env s else Kp P N D k Q (.exit j) env s | f => Kp P N D k Q f env s
  | .back I :: k, Q => fun f env s => match f with | .norm => I env s | f => Kp P N D k Q f env s

section
variable {k : List Itm} {Q : Pst} {env : Env} {s : St}

theorem L_seq {x y : Code} (h : Kp P N D (.code x :: .code y :: k) Q .norm env s) : Kp P N D (.code (.seq x y) :: k) Q .norm env s := by
  intro w0 G w a hf hD hS
  refine wp_seq (wp_mono (h w0 G w a hf hD hS) ?_)
  rintro e a' w' ⟨G', f, env', s', hG, hx, hf', hD', hS', hq⟩
  cases f with
  | norm =>
    cases e <;> first | exact hx.elim | skip
    exact wp_mono (hq w0 G' w' a' hf' hD' hS') fun e a w => Up.back hG
  | ret => cases e <;> first | exact hx.elim | exact ⟨G', .ret, env', s', hG, hx, hf', hD', hS', hq⟩
  | exit i => cases e <;> first | exact hx.elim | exact ⟨G', .exit i, env', s', hG, hx, hf', hD', hS', hq⟩
  | panic x => cases e <;> first | exact hx.elim | exact ⟨G', .panic x, env', s', hG, hx, hf', hD', hS', hq⟩

theorem L_skip (h : Kp P N D k Q .norm env s) : Kp P N D (.code .skip :: k) Q .norm env s :=
  fun _ G _ _ hf hD hS => wp_skip ⟨G, .norm, env, s, Gh.le.refl G, trivial, hf, hD, hS, h⟩
theorem L_exit {id : Nat} (h : Kp P N D k Q (.exit id) env s) : Kp P N D (.code (.exit id) :: k) Q .norm env s :=
  fun _ G _ _ hf hD hS => wp_exit ⟨G, .exit id, env, s, Gh.le.refl G, rfl, hf, hD, hS, h⟩
theorem Kp_ret : ∀ k : List Itm, Kp P N D k Q .ret env s = Q .ret env s
  | [] => rfl
  | .code c :: k => Kp_ret k
  | .blk id :: k => Kp_ret k
  | .back I :: k => Kp_ret k
theorem Kp_panic {x : VV} : ∀ k : List Itm, Kp P N D k Q (.panic x) env s = Q (.panic x) env s
  | [] => rfl
  | .code c :: k => Kp_panic k
  | .blk id :: k => Kp_panic k
  | .back I :: k => Kp_panic k
theorem L_ret (h : Q .ret env s) : Kp P N D (.code .ret :: k) Q .norm env s :=
  fun _ G _ _ hf hD hS => wp_ret ⟨G, .ret, env, s, Gh.le.refl G, trivial, hf, hD, hS, by rw [Kp_ret]; exact h⟩
theorem L_blk {id : Nat} {c : Code} (h : Kp P N D (.code c :: .blk id :: k) Q .norm env s) : Kp P N D (.code (.block id c) :: k) Q .norm env s := by
  intro w0 G w a hf hD hS
  refine wp_block (wp_mono (h w0 G w a hf hD hS) ?_)
  rintro e a' w' ⟨G', f, env', s', hG, hx, hf', hD', hS', hq⟩
  cases f with
  | norm => cases e <;> first | exact hx.elim | exact ⟨G', .norm, env', s', hG, hx, hf', hD', hS', hq⟩
  | ret => cases e <;> first | exact hx.elim | exact ⟨G', .ret, env', s', hG, hx, hf', hD', hS', hq⟩
  | panic x => cases e <;> first | exact hx.elim | exact ⟨G', .panic x, env', s', hG, hx, hf', hD', hS', hq⟩
  | exit i =>
    cases e <;> first | exact hx.elim | skip
    rename_i i'
    have : i' = i := hx
    subst this
    simp only [Kp] at hq
    simp only [Exit.inBlock]
    by_cases hi : i' = id
    · rw [if_pos hi] at hq ⊢
      exact ⟨G', .norm, env', s', hG, trivial, hf', hD', hS', hq⟩
    · rw [if_neg hi] at hq ⊢
      exact ⟨G', .exit i', env', s', hG, rfl, hf', hD', hS', hq⟩
theorem L_endblk {id : Nat} (h : Kp P N D k Q .norm env s) : Kp P N D (.blk id :: k) Q .norm env s := h
theorem L_back {I : Env → St → Prop} (h : I env s) : Kp P N D (.back I :: k) Q .norm env s := h
theorem X_code {c : Code} {id : Nat} (h : Kp P N D k Q (.exit id) env s) : Kp P N D (.code c :: k) Q (.exit id) env s := h
theorem X_back {I : Env → St → Prop} {id : Nat} (h : Kp P N D k Q (.exit id) env s) : Kp P N D (.back I :: k) Q (.exit id) env s := h
theorem X_blk {id : Nat} (h : Kp P N D k Q .norm env s) : Kp P N D (.blk id :: k) Q (.exit id) env s := by
  show (if id = id then _ else _)
  rw [if_pos rfl]; exact h
theorem X_past {id j : Nat} (hne : j ≠ id) (h : Kp P N D k Q (.exit j) env s) : Kp P N D (.blk id :: k) Q (.exit j) env s := by
  simp only [Kp]; rw [if_neg hne]; exact h

/-- A test. -/
def vcond (P : Program) (N : Nat) (D : List Deferred) (c : VV) (x y : Code) (k : List Itm) (Q : Pst) (env : Env) (s : St) : Prop :=
  match c with
  | .bool t => (t = true → Kp P N D (.code x :: k) Q .norm env s) ∧ (t = false → Kp P N D (.code y :: k) Q .norm env s)
  | _ => False
theorem vcond_true {x y : Code} : vcond P N D (.bool true) x y k Q env s = Kp P N D (.code x :: k) Q .norm env s := by simp [vcond]
theorem vcond_false {x y : Code} : vcond P N D (.bool false) x y k Q env s = Kp P N D (.code y :: k) Q .norm env s := by simp [vcond]
theorem L_cond {c : Operand} {x y : Code} (h : vcond P N D (rd env c) x y k Q env s) : Kp P N D (.code (.cond c x y) :: k) Q .norm env s := by
  intro w0 G w a hf hD hS
  have hr := hf.eval c
  cases he : rd env c with
  | bool t =>
    rw [he] at hr h
    generalize hv : a.eval c = v at hr
    cases hr
    cases t with
    | true => exact wp_cond_true hv (h.1 rfl w0 G w a hf hD hS)
    | false => exact wp_cond_false hv (h.2 rfl w0 G w a hf hD hS)
  | _ => rw [he] at h; exact h.elim

theorem L_region {id : Nat} {ops : List Oper} (h : ∀ (K : Env → St → Prop) (E : VV → Env → St → Prop), (∀ env s, Kp P N D k Q .norm env s → K env s) → (∀ x env s, Q (.panic x) env s → E x env s) → vops P N ops K E ops env s) :
    Kp P N D (.code (.region id ops.toArray false) :: k) Q .norm env s := by
  intro w0 G w a hf hD hS
  refine wp_region_list ?_
  have := h (fun env s => Kp P N D k Q .norm env s) (fun x env s => Q (.panic x) env s) (fun _ _ h => h) (fun _ _ _ h => h)
  exact vops_sound (Q := Kp P N D k Q) (fun _ _ h => h) (fun x env s h => by rw [Kp_panic]; exact h) ops env s this w0 G w a hf hD hS

theorem L_loop {c : Code} (I : Nat → Env → St → Prop) (n : Nat) (h0 : I n env s) (hr : ∀ n env s, I n env s → Kp P N D (.code c :: .back (fun env' s' => ∃ m, m < n ∧ I m env' s') :: k) Q .norm env s) :
    Kp P N D (.code (.loop c) :: k) Q .norm env s := by
  intro w0 G w a hf hD hS
  refine wp_loop_ghost (fun n a w => ∃ (G' : Gh) (env : Env) (s : St), G.le G' ∧ FR N G' a.tmps env ∧ a.defers = D ∧ Sim w0 G' w s ∧ I n env s) n ⟨G, env, s, Gh.le.refl G, hf, hD, hS, h0⟩ ?_
  rintro n a w ⟨G', env, s, hG, hf, hD, hS, hI⟩
  refine wp_mono (hr n env s hI w0 G' w a hf hD hS) ?_
  rintro e a' w' ⟨G'', f, env', s', hG', hx, hf', hD', hS', hq⟩
  cases f with
  | norm =>
    cases e <;> first | exact hx.elim | skip
    obtain ⟨m, hm, hI'⟩ := hq
    exact ⟨m, hm, G'', env', s', hG.trans hG', hf', hD', hS', hI'⟩
  | ret => cases e <;> first | exact hx.elim | exact ⟨G'', .ret, env', s', hG.trans hG', hx, hf', hD', hS', hq⟩
  | exit i => cases e <;> first | exact hx.elim | exact ⟨G'', .exit i, env', s', hG.trans hG', hx, hf', hD', hS', hq⟩
  | panic x => cases e <;> first | exact hx.elim | exact ⟨G'', .panic x, env', s', hG.trans hG', hx, hf', hD', hS', hq⟩

theorem Kp_back_mono {c : Code} {I I' : Env → St → Prop} (hI : ∀ env s, I env s → I' env s) (h : Kp P N D (.code c :: .back I :: k) Q .norm env s) : Kp P N D (.code c :: .back I' :: k) Q .norm env s := by
  intro w0 G w a hf hD hS
  refine wp_mono (h w0 G w a hf hD hS) ?_
  rintro e a' w' ⟨G', f, env', s', hG, hx, hf', hD', hS', hq⟩
  exact ⟨G', f, env', s', hG, hx, hf', hD', hS', by cases f <;> first | exact hI _ _ hq | exact hq⟩
/-- A loop of few rounds. -/
def KR (P : Program) (N : Nat) (D : List Deferred) (c : Code) (k : List Itm) (Q : Pst) : Nat → Env → St → Prop
  | 0 => fun _ _ => False
  | n + 1 => fun env s => Kp P N D (.code c :: .back (KR P N D c k Q n) :: k) Q .norm env s
theorem L_rounds {c : Code} (n : Nat) (h : KR P N D c k Q n env s) : Kp P N D (.code (.loop c) :: k) Q .norm env s := by
  refine L_loop (fun m env s => KR P N D c k Q m env s) n h ?_
  intro m env s hm
  cases m with
  | zero => exact hm.elim
  | succ m => exact Kp_back_mono (fun env s h => ⟨m, Nat.lt_succ_self m, h⟩) hm
theorem KR_succ {c : Code} (n : Nat) (h : Kp P N D (.code c :: .back (KR P N D c k Q n) :: k) Q .norm env s) : KR P N D c k Q (n + 1) env s := h

/-- What is known may be made less. -/
theorem Kp_forget {c : Code} {s' : St} (hf : Fg s s') (h : Kp P N D (.code c :: k) Q .norm env s') : Kp P N D (.code c :: k) Q .norm env s :=
  fun w0 G w a hfr hD hS => h w0 G w a hfr hD (hS.forget hf)
end

/-- What a function hands back. -/
def vone (P : Program) (env : Env) (s : St) : ResultVar → Option VV
  | .tmp t => some (env t)
  | .cell t T => vload (qi P T) (env t) s
def vones (P : Program) (env : Env) (s : St) : List ResultVar → Option (List VV)
  | [] => some []
  | r :: rs => match vone P env s r, vones P env s rs with | some x, some xs => some (x :: xs) | _, _ => none
def vres (P : Program) (env : Env) (s : St) (rs : List ResultVar) : Option VV :=
  match rs with
  | [r] => vone P env s r
  | rs => (vones P env s rs).map .tup

def oneRes (tmps : Array Value) : ResultVar → Sem Value
  | .tmp t => pure (tmps.getD t undef)
  | .cell a t => do loadVar t (← asAddr (tmps.getD a undef))
theorem results_eq (fn : Func) (tmps : Array Value) : results fn tmps = (do
    let vs ← fn.results.mapM (oneRes tmps)
    pure (if h : vs.size = 1 then vs[0] else .tuple vs)) := by
  unfold results
  congr 2

theorem run_vone {w0 w : World} {G : Gh} {s : St} {env : Env} {tmps : Array Value} (hf : FR N G tmps env) (hS : Sim w0 G w s) {r : ResultVar} {x : VV} (h : vone P env s r = some x) :
    ∃ v, (oneRes tmps r).run P w = .ok v w ∧ R G v x := by
  cases r with
  | tmp t =>
    simp only [vone, Option.some.injEq] at h
    subst h
    exact ⟨_, rfl, hf.rel t⟩
  | cell t T =>
    have hr := hf.rel t
    obtain ⟨v, hrun, hR⟩ := run_vload (P := P) hS hr h
    refine ⟨v, ?_, hR⟩
    generalize hu : tmps.getD t undef = u at hrun
    cases u with
    | pointer a =>
      cases a with
      | some a =>
        simp only [oneRes, hu, asAddr, Sem.run_bind, Sem.run_pure, Result.andThen_ok]
        simpa [Instr.loadAt, Instr.sureAddr] using hrun
      | none => simp [Instr.loadAt, Instr.sureAddr] at hrun
    | _ => simp [Instr.loadAt, Instr.sureAddr] at hrun

theorem run_vones {w0 w : World} {G : Gh} {s : St} {env : Env} {tmps : Array Value} (hf : FR N G tmps env) (hS : Sim w0 G w s) : ∀ (rs : List ResultVar) (xs : List VV), vones P env s rs = some xs →
    ∃ vs : List Value, (rs.mapM (oneRes tmps)).run P w = .ok vs w ∧ RL G vs.toArray xs ∧ vs.length = rs.length
  | [], xs, h => by
    simp only [vones, Option.some.injEq] at h
    subst h
    exact ⟨[], by simp, ⟨rfl, by simp⟩, rfl⟩
  | r :: rs, xs, h => by
    simp only [vones] at h
    split at h
    · rename_i x xs' h1 h2
      simp only [Option.some.injEq] at h
      subst h
      obtain ⟨v, hv, hR⟩ := run_vone (P := P) hf hS h1
      obtain ⟨vs, hvs, hRs, hl⟩ := run_vones hf hS rs xs' h2
      refine ⟨v :: vs, ?_, ⟨by simpa using hRs.1, fun j u y hu hy => ?_⟩, by simp [hl]⟩
      · rw [List.mapM_cons]
        simp only [Sem.run_bind]
        rw [hv]
        simp only [Result.andThen_ok]
        rw [hvs]
        rfl
      · cases j with
        | zero => simp at hu hy; subst hu; subst hy; exact hR
        | succ j => exact hRs.2 j u y (by simpa using hu) (by simpa using hy)
    · cases h

theorem run_vres {w0 w : World} {G : Gh} {s : St} {env : Env} {tmps : Array Value} {fn : Func} (hf : FR N G tmps env) (hS : Sim w0 G w s) {x : VV} (h : vres P env s fn.results.toList = some x) :
    ∃ v, (results fn tmps).run P w = .ok v w ∧ R G v x := by
  rw [results_eq, Array.mapM_eq_mapM_toList]
  generalize fn.results.toList = rs at h
  match rs, h with
  | [], h =>
    simp only [vres, vones, Option.map_some, Option.some.injEq] at h
    subst h
    exact ⟨.tuple #[], by simp, .tup _ _ rfl (by simp)⟩
  | [r], h =>
    obtain ⟨v, hv, hR⟩ := run_vone (P := P) hf hS (r := r) h
    refine ⟨v, ?_, hR⟩
    simp only [Sem.run_bind, Sem.run_map, List.mapM_cons, List.mapM_nil]
    rw [hv]
    rfl
  | r :: r' :: rs, h =>
    simp only [vres] at h
    cases hx : vones P env s (r :: r' :: rs) with
    | none => simp [hx] at h
    | some xs =>
      simp only [hx, Option.map_some, Option.some.injEq] at h
      subst h
      obtain ⟨vs, hvs, hRs, hl⟩ := run_vones (P := P) hf hS _ _ hx
      refine ⟨.tuple vs.toArray, ?_, .tup _ _ hRs.1 hRs.2⟩
      simp only [Sem.run_bind, Sem.run_map]
      rw [hvs]
      simp only [Result.andThen_ok]
      rw [dif_neg (by simp [hl])]
      rfl

/-- One value may be taken for another. -/
def Wk (x y : VV) : Prop := ∀ (G : Gh) (v : Value), R G v x → R G v y
theorem Wk.refl (x : VV) : Wk x x := fun _ _ h => h
theorem Wk.lst (xs : List (List VV)) (o : Own) : Wk (.lst xs o) (.lst xs .no) := fun _ _ h => h.unown

def Qf (P : Program) (rs : List ResultVar) (Q : SEnd → St → Prop) : Pst := fun f env s =>
  match f with
  | .norm => ∃ x, vres P env s rs = some x ∧ ∃ y s', Wk x y ∧ Fg s s' ∧ Q (.ret y) s'
  | .ret => ∃ x, vres P env s rs = some x ∧ ∃ y s', Wk x y ∧ Fg s s' ∧ Q (.ret y) s'
  | .panic x => ∃ s', Fg s s' ∧ Q (.panic x) s'
  | .exit _ => False

def env0 (xs : List VV) : Env := fun i => (xs[i]?).getD (.tup [])

theorem FR.start {G : Gh} {vs : Array Value} {xs : List VV} {n : Nat} (h : RL G vs xs) (hN : n = vs.size + (n - vs.size)) : FR n G (vs ++ Array.replicate (n - vs.size) undef) (env0 xs) := by
  refine ⟨by simp; omega, fun i => ?_⟩
  unfold env0
  have hu : R G undef (.tup []) := .tup _ _ rfl (by simp)
  rcases Nat.lt_or_ge i vs.size with hi | hi
  · have h2 : i < xs.length := by rw [← h.1]; exact hi
    have : (vs ++ Array.replicate (n - vs.size) undef).getD i undef = vs[i] := by
      rw [Array.getD_eq_getD_getElem?, Array.getElem?_append_left hi]; simp [hi]
    rw [this, List.getElem?_eq_getElem h2]
    exact h.2 i _ _ (Array.getElem?_eq_getElem hi) (List.getElem?_eq_getElem h2)
  · have h2 : xs[i]? = none := List.getElem?_eq_none (by rw [← h.1]; exact hi)
    rw [h2]
    have : (vs ++ Array.replicate (n - vs.size) undef).getD i undef = undef := by
      rw [Array.getD_eq_getD_getElem?, Array.getElem?_append_right hi, Array.getElem?_replicate]
      split <;> rfl
    rw [this]
    exact hu

/-- A function's contract, out of its body. -/
theorem S_enter {f : FuncId} {fn : Func} {c : Code} {xs : List VV} {s : St} {Q : SEnd → St → Prop} (hf : P.funcs[f]? = some fn) (hb : fn.body = some c) (hN : fn.ntmps = N) (hl : Nat.ble xs.length N = true)
    (h : Kp P N [] [.code c] (Qf P fn.results.toList Q) .norm (env0 xs) s) : SCalls P f xs s Q := by
  intro w0 G w vs hS hvs
  subst hN
  have hle : vs.size ≤ fn.ntmps := by rw [hvs.1]; exact Nat.le_of_ble_eq_true hl
  refine calls_of_wp hf hb (wp_mono (h w0 G w { tmps := vs ++ Array.replicate (fn.ntmps - vs.size) undef, defers := [] } (FR.start hvs (by omega)) rfl hS) ?_)
  rintro e a w' ⟨G', f, env, s', hG, hx, hf', hD, hS', hq⟩
  have fin : (∃ x, vres P env s' fn.results.toList = some x ∧ ∃ y s'', Wk x y ∧ Fg s' s'' ∧ Q (.ret y) s'') → a.defers = [] ∧ ∃ v, (results fn a.tmps).run P w' = .ok v w' ∧
      ∃ (G' : Gh) (s' : St) (x : SEnd), G.le G' ∧ Sim w0 G' w' s' ∧ RE G' (.returned v) x ∧ Q x s' := by
    rintro ⟨x, hx, y, s'', hw, hfg, hq⟩
    obtain ⟨v, hrun, hR⟩ := run_vres (P := P) (fn := fn) hf' hS' hx
    exact ⟨hD, v, hrun, G', s'', .ret y, hG, hS'.forget hfg, hw _ _ hR, hq⟩
  cases f with
  | norm => cases e <;> first | exact hx.elim | exact fin hq
  | ret => cases e <;> first | exact hx.elim | exact fin hq
  | exit i => cases e <;> first | exact hx.elim | exact hq.elim
  | panic x =>
    cases e <;> first | exact hx.elim | skip
    obtain ⟨v, rfl, hv⟩ := hx
    obtain ⟨s'', hfg, hq⟩ := hq
    exact ⟨hD, G', s'', .panic x, hG, hS'.forget hfg, ⟨v, rfl, hv⟩, hq⟩

theorem SCalls.mono {f : FuncId} {xs : List VV} {s : St} {Q Q' : SEnd → St → Prop} (h : SCalls P f xs s Q) (hq : ∀ x s', Q x s' → Q' x s') : SCalls P f xs s Q' :=
  fun w0 G w vs hS hvs => (h w0 G w vs hS hvs).mono fun e w' ⟨G', s', x, h1, h2, h3, h4⟩ => ⟨G', s', x, h1, h2, h3, hq x s' h4⟩

theorem callable_of {f : FuncId} {fn : Func} (hf : P.funcs[f]? = some fn) (hn : (fn.name == "runtime.NumGoroutine") = false) (hb : fn.body.isNone = false) : Callable P f := by
  intro args w
  unfold callFunc
  simp only [Sem.run_bind, run_program, Result.andThen_ok, hf, hn, hb, Bool.false_eq_true, if_false, Sem.run_pure]
end
end Go.Proofs.YtbfgdblebepgcaaDoor
