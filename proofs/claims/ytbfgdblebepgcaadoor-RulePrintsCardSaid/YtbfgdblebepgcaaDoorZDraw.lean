/- What is proved: Regions that draw their order. Conditions: those that stand in the statements. -/
import Derived.Test.YtbfgdblebepgcaaDoorZSoundG
import Derived.StillTail
set_option linter.unusedSimpArgs false
set_option linter.unusedVariables false
set_option linter.unusedVariables false
namespace Go.Proofs.YtbfgdblebepgcaaDoor
open Go.RowKit

section
variable {P : Program} {N : Nat} {D : List Deferred}

theorem wpOp_mono2 {ops : Array Oper} {Q Q' : Exit → Act → World → Prop} {i : Nat} {K K' : Act → World → Prop} {a : Act} {w : World} (hK : ∀ a w, K a w → K' a w) (hQ : ∀ e a w, Q e a w → Q' e a w) (h : wpOp P ops Q i K a w) : wpOp P ops Q' i K' a w := by
  unfold wpOp at h ⊢
  cases ho : ops[i]? with
  | none => rw [ho] at h; exact hK _ _ h
  | some o =>
    rw [ho] at h
    simp only at h ⊢
    split at h
    · rename_i hw
      rw [if_pos hw]
      rcases h with h | ⟨h1, a', w', h2⟩
      · exact .inl (Oper.wp_mono' hK hQ h)
      · exact .inr ⟨h1, a', w', hQ _ _ _ h2⟩
    · rename_i hw
      rw [if_neg hw]
      exact hK _ _ h
theorem wpAny_mono2 {md : Region.Mode} {ops : Array Oper} {Q Q' : Exit → Act → World → Prop} (hQ : ∀ e a w, Q e a w → Q' e a w) : ∀ (f : Nat) (listed : Array Bool) (a : Act) (w : World), wpAny P md ops Q f listed a w → wpAny P md ops Q' f listed a w
  | 0, _, _, _, h => ⟨h.1, hQ _ _ _ h.2⟩
  | f + 1, _, _, _, h => ⟨fun e => hQ _ _ _ (h.1 e), fun i hi => wpOp_mono2 (wpAny_mono2 hQ f _) hQ (h.2 i hi)⟩

/-- One operation, with its guard. -/
def vgone (P : Program) (N : Nat) (all : List Oper) (E : VV → Env → St → Prop) (o : Oper) (K : Env → St → Prop) (env : Env) (s : St) : Prop :=
  match o.guard with
  | none => vstep P N E o K env s
  | some (j, want) => vguard (yv all env j) want (vstep P N E o K env s) (vskip N o K env s)
def vopi (P : Program) (N : Nat) (all : List Oper) (E : VV → Env → St → Prop) (i : Nat) (K : Env → St → Prop) (env : Env) (s : St) : Prop :=
  match all[i]? with
  | none => K env s
  | some o => vgone P N all E o K env s
def vAny (P : Program) (N : Nat) (all : List Oper) (K : Env → St → Prop) (E : VV → Env → St → Prop) : Nat → Array Bool → Env → St → Prop
  | 0, listed, env, s => Region.ready .any all.toArray listed = [] ∧ K env s
  | f + 1, listed, env, s => (Region.ready .any all.toArray listed = [] → K env s) ∧ ∀ i ∈ Region.ready .any all.toArray listed, vopi P N all E i (vAny P N all K E f (listed.setIfInBounds i true)) env s

theorem vopi_sound {all : List Oper} {E : VV → Env → St → Prop} {Q : Pst} {i : Nat} {K : Env → St → Prop} {env : Env} {s : St} {w0 : World} {G : Gh} {w : World} {a : Act} {K' : Act → World → Prop}
    (hE : ∀ x env s, E x env s → Q (.panic x) env s) (hf : FR N G a.tmps env) (hD : a.defers = D) (hS : Sim w0 G w s)
    (hK : ∀ (G' : Gh) (env' : Env) (s' : St) (a' : Act) (w' : World), G.le G' → FR N G' a'.tmps env' → a'.defers = D → Sim w0 G' w' s' → K env' s' → K' a' w')
    (h : vopi P N all E i K env s) : wpOp P all.toArray (Up N w0 G D Q) i K' a w := by
  unfold vopi at h
  unfold wpOp
  rw [List.getElem?_toArray]
  cases ho : all[i]? with
  | none => rw [ho] at h; exact hK G env s a w (Gh.le.refl G) hf hD hS h
  | some o =>
    rw [ho] at h
    simp only at h ⊢
    have run : vstep P N E o K env s → o.wp P a w K' (Up N w0 G D Q) := by
      intro hst
      refine Oper.wp_mono' ?_ ?_ (step_sound hf hD hS hst)
      · rintro a' w' ⟨G', env', s', hG, hf', hD', hS', hk⟩
        exact hK G' env' s' a' w' hG hf' hD' hS' hk
      · rintro e a' w' ⟨G', env', s', v, x, rfl, hv, hG, hf', hD', hS', hk⟩
        exact ⟨G', .panic x, env', s', hG, ⟨v, rfl, hv⟩, hf', hD', hS', hE _ _ _ hk⟩
    have skip : vskip N o K env s → K' (a.put o.dst undef) w := by
      intro hsk
      exact hK G _ s _ w (Gh.le.refl G) (hf.put o.dst (.tup _ _ rfl (fun j v y hv => by simp at hv))) ((put_defers _ _ _).trans hD) hS hsk
    unfold vgone at h
    cases hg : o.guard with
    | none =>
      rw [if_pos (by simp [Region.wanted, hg])]
      rw [hg] at h
      exact .inl (run h)
    | some g =>
      obtain ⟨j, want⟩ := g
      rw [hg] at h
      simp only at h
      unfold yv at h
      cases hd : (all[j]?).bind (·.dst) with
      | none =>
        rw [hd] at h
        rw [if_neg (by simp [Region.wanted, hg, yielded, hd])]
        exact skip h
      | some t =>
        rw [hd] at h
        simp only at h
        have hr := hf.rel t
        cases he : env t with
        | bool b =>
          rw [he] at hr h
          generalize hv : a.tmps.getD t undef = v at hr
          cases hr
          have hy : yielded all.toArray a.tmps j = some b := by
            have hlt : t < a.tmps.size := by
              rcases Nat.lt_or_ge t a.tmps.size with h' | h'
              · exact h'
              · simp [Array.getD, Nat.not_lt.2 h', undef] at hv
            have : a.tmps[t]? = some (.bool b) := by
              simp [Array.getD, hlt] at hv
              simp [hlt, hv]
            simp [yielded, hd, this]
          simp only [vguard] at h
          by_cases hbw : b = want
          · rw [if_pos hbw] at h
            rw [if_pos (by simp [Region.wanted, hg, hy, hbw])]
            exact .inl (run h)
          · rw [if_neg hbw] at h
            rw [if_neg (by simp [Region.wanted, hg, hy, hbw])]
            exact skip h
        | tup xs =>
          rw [he] at hr h
          generalize hv : a.tmps.getD t undef = v at hr
          cases hr with
          | tup vs xs hs hR =>
            have hy : yielded all.toArray a.tmps j = none := by
              by_cases hlt : t < a.tmps.size
              · have : a.tmps[t]? = some (.tuple vs) := by
                  simp [Array.getD, hlt] at hv
                  simp [hlt, hv]
                simp [yielded, hd, this]
              · simp [yielded, hd, hlt]
            rw [if_neg (by simp [Region.wanted, hg, hy])]
            exact skip h
        | _ => rw [he] at h; exact h.elim

theorem vAny_sound {all : List Oper} {K : Env → St → Prop} {E : VV → Env → St → Prop} {Q : Pst} (hK : ∀ env s, K env s → Q .norm env s) (hE : ∀ x env s, E x env s → Q (.panic x) env s) :
    ∀ (f : Nat) (listed : Array Bool) (env : Env) (s : St), vAny P N all K E f listed env s → ∀ (w0 : World) (G : Gh) (w : World) (a : Act), FR N G a.tmps env → a.defers = D → Sim w0 G w s →
      wpAny P .any all.toArray (Up N w0 G D Q) f listed a w
  | 0, _, env, s, h, w0, G, w, a, hf, hD, hS => ⟨h.1, G, .norm, env, s, Gh.le.refl G, trivial, hf, hD, hS, hK _ _ h.2⟩
  | f + 1, listed, env, s, h, w0, G, w, a, hf, hD, hS =>
    ⟨fun e => ⟨G, .norm, env, s, Gh.le.refl G, trivial, hf, hD, hS, hK _ _ (h.1 e)⟩, fun i hi =>
      vopi_sound hE hf hD hS (fun G' env' s' a' w' hG hf' hD' hS' hk => wpAny_mono2 (fun e a w => Up.back hG) f _ _ _ (vAny_sound hK hE f _ env' s' hk w0 G' w' a' hf' hD' hS')) (h.2 i hi)⟩

theorem L_draw {k : List Itm} {Q : Pst} {env : Env} {s : St} {id : Nat} {ops : List Oper} (hm : P.follows .mixedOrders = true)
    (h : ∀ (K : Env → St → Prop) (E : VV → Env → St → Prop), (∀ env s, Kp P N D k Q .norm env s → K env s) → (∀ x env s, Q (.panic x) env s → E x env s) → vAny P N ops K E ops.length (Array.replicate ops.length false) env s) :
    Kp P N D (.code (.region id ops.toArray true) :: k) Q .norm env s := by
  intro w0 G w a hf hD hS
  refine wp_region_any hm ?_
  have := h (fun env s => Kp P N D k Q .norm env s) (fun x env s => Q (.panic x) env s) (fun _ _ h => h) (fun _ _ _ h => h)
  exact vAny_sound (Q := Kp P N D k Q) (fun _ _ h => h) (fun x env s h => by rw [Kp_panic]; exact h) _ _ env s this w0 G _ a hf hD ⟨⟨hS.below.os, hS.below.tape, hS.below.output, hS.below.size, hS.below.block⟩, hS.K, hS.cap, hS.ok, hS.gl, hS.rows⟩
end

/-- What an operation does hangs on what it looks at. -/
theorem vstep_congr {P : Program} {N : Nat} {E E' : VV → Env → St → Prop} {o : Oper} {rest rest' : Env → St → Prop} {env env' : Env} {s : St} (hx : ∀ x ∈ o.op.operands.toList, rd env' x = rd env x)
    (hr : ∀ y s', rest (put N env o.dst y) s' → rest' (put N env' o.dst y) s') (hE : ∀ x s, E x env s → E' x env' s) (h : vstep P N E o rest env s) : vstep P N E' o rest' env' s := by
  have ob : ∀ {α : Type} {f g : α → Prop} {x : Option α}, (∀ y, f y → g y) → optB f x → optB g x := by
    intro α f g x hfg hx
    cases x with
    | none => exact hx
    | some y => exact hfg y hx
  obtain ⟨d, op, ty, p, af, g⟩ := o
  simp only at hx hr
  unfold vstep at h ⊢
  cases op <;> simp only [Op.operands] at hx <;> simp only at h ⊢
  all_goals (try exact h.elim)
  all_goals (try simp only [List.mem_cons, List.not_mem_nil, or_false, forall_eq_or_imp, forall_eq, Option.toArray, Array.toList_append, List.cons_append, List.nil_append] at hx)
  case move => rw [hx]; exact hr _ _ h
  case assign => rw [hx]; exact hr _ _ h
  case pick =>
    simp only [hx]
    split at h
    · exact hr _ _ h
    · exact h.elim
  case alloc => exact ⟨h.1, fun b hb => hr _ _ (h.2 b hb)⟩
  case box => simp only [hx]; exact ⟨h.1, fun b hb => hr _ _ (h.2 b hb)⟩
  case build T parts =>
    have e : (parts.toList.map fun p => (p.1, rd env' p.2)) = parts.toList.map fun p => (p.1, rd env p.2) :=
      List.map_congr_left fun p hp => by rw [hx p.2 (List.mem_map_of_mem hp)]
    rw [e]
    exact ⟨h.1, h.2.1, ob (fun _ => hr _ _) h.2.2⟩
  case buildSlice T n parts =>
    have e : (parts.toList.map fun p => (p.1, rd env' p.2)) = parts.toList.map fun p => (p.1, rd env p.2) :=
      List.map_congr_left fun p hp => by rw [hx p.2 (List.mem_map_of_mem hp)]
    rw [e]
    exact ⟨h.1, h.2.1, h.2.2.1, h.2.2.2.1, ob (fun _ => hr _ _) h.2.2.2.2⟩
  case load => rw [hx]; exact ob (fun _ => hr _ _) h
  case store => rw [hx.1, hx.2]; exact ob (fun _ => hr _ _) h
  case nilCheck => rw [hx]; exact ⟨h.1, hr _ _ h.2⟩
  case binOp =>
    rw [hx.1, hx.2]
    split at h
    · exact ⟨h.1, ob (fun _ => hr _ _) h.2⟩
    · split at h
      · exact ⟨h.1, hr _ _ h.2⟩
      · exact hr _ _ h
      · exact hr _ _ h
      · exact h.elim
    · obtain ⟨h1, h2⟩ := h
      refine ⟨h1, ?_⟩
      split at h2
      · exact hr _ _ h2
      · exact hr _ _ h2
      · exact h2.elim
    · obtain ⟨h1, h2, h3, h4⟩ := h
      refine ⟨h1, h2, h3, ?_⟩
      split at h4
      · exact hr _ _ h4
      · exact hr _ _ h4
      · exact h4.elim
    · split at h
      · exact ob (fun _ => hr _ _) h
      · exact ob (fun _ => hr _ _) h
      · exact h.elim
    · obtain ⟨hc, h⟩ := h
      refine ⟨hc, ?_⟩
      split at h
      · exact ob (fun _ => hr _ _) h
      · exact ob (fun _ => hr _ _) h
      · exact h.elim
  case typeAssert =>
    rw [hx]
    refine ⟨h.1, h.2.1, ?_⟩
    have h2 := h.2.2
    split at h2
    · exact ⟨h2.1, hr _ _ h2.2⟩
    · exact h2.elim
  case convert => rw [hx]; exact ob (fun _ => hr _ _) h
  case unOp =>
    rw [hx]
    split at h
    · exact hr _ _ h
    · exact hr _ _ h
    · exact h.elim
  case fieldAddr =>
    rw [hx]
    split at h
    · exact ⟨h.1, hr _ _ h.2⟩
    · exact hr _ _ h
    · exact h.elim
  case field =>
    rw [hx]
    split at h
    · exact ob (fun _ => hr _ _) h
    · exact h.elim
  case indexAddr => rw [hx.1, hx.2]; exact ob (fun _ => hr _ _) h
  case index => rw [hx.1, hx.2]; exact ob (fun _ => hr _ _) h
  case makeInterface => rw [hx]; exact ⟨h.1, hr _ _ h.2⟩
  case extract =>
    rw [hx]
    split at h
    · exact ob (fun _ => hr _ _) h
    · exact h.elim
  case panic =>
    rw [hx]
    split at h
    · exact hE _ _ h
    · exact h.elim
  case lookup => rw [hx.1, hx.2]; exact ob (fun _ => hr _ _) h
  case mapUpdate => rw [hx.1, hx.2.1, hx.2.2]; exact ob (fun _ => hr _ _) h
  case slice T x lo hi mx =>
    obtain ⟨hx0, hx1⟩ := hx
    have hlo : lo.map (rd env') = lo.map (rd env) := by
      cases lo with
      | none => rfl
      | some y => simp only [Option.map_some]; rw [hx1 y (by simp)]
    have hhi : hi.map (rd env') = hi.map (rd env) := by
      cases hi with
      | none => rfl
      | some y => simp only [Option.map_some]; rw [hx1 y (by simp)]
    rw [hx0, hlo, hhi]
    exact ⟨h.1, ob (fun _ => hr _ _) h.2⟩
  case makeMap T r =>
    cases r with
    | none => exact fun b hb => hr _ _ (h b hb)
    | some r => exact h.elim
  case makeFunc fn fs caps =>
    cases fn with
    | func f =>
      simp only at h ⊢
      have e : caps.toList.map (rd env') = caps.toList.map (rd env) := List.map_congr_left fun p hp => hx p (List.mem_append_right _ hp)
      rw [e]
      exact ⟨h.1, hr _ _ h.2⟩
    | _ => exact h.elim
  case call c =>
    have ea : c.args.toList.map (rd env') = c.args.toList.map (rd env) := List.map_congr_left fun p hp => hx p (by simp [Call.operands]; exact .inr (by simpa using hp))
    have ha : ∀ x ∈ c.args.toList, rd env' x = rd env x := fun p hp => hx p (by simp [Call.operands]; exact .inr (by simpa using hp))
    cases hc : c.callee with
    | value f =>
      rw [hc] at h
      simp only at h ⊢
      rw [hx f (by simp [Call.operands, hc]), ea]
      obtain ⟨g, caps, Q, h1, h2, h3, h4⟩ := h
      exact ⟨g, caps, Q, h1, h2, fun x s' q => hr _ _ (h3 x s' q), fun x s' q => hE _ _ (h4 x s' q)⟩
    | invoke r m => rw [hc] at h; exact h.elim
    | builtin b =>
      rw [hc] at h
      cases b with
      | len =>
        simp only at h ⊢
        split at h
        · rename_i x T he hT
          rw [ha x (by rw [he]; simp)]
          exact ob (fun _ => hr _ _) h
        · exact h.elim
      | min =>
        simp only at h ⊢
        split at h
        · rename_i x y he
          rw [ha x (by rw [he]; simp), ha y (by rw [he]; simp)]
          exact ob (fun _ => hr _ _) h
        · exact h.elim
      | max =>
        simp only at h ⊢
        split at h
        · rename_i x y he
          rw [ha x (by rw [he]; simp), ha y (by rw [he]; simp)]
          exact ob (fun _ => hr _ _) h
        · exact h.elim
      | append =>
        simp only at h ⊢
        split at h
        · rename_i x y T T' he hT
          rw [ha x (by rw [he]; simp), ha y (by rw [he]; simp)]
          refine ⟨h.1, ?_⟩
          have h2 := h.2
          split at h2
          · obtain ⟨a0, a1, a2, a3, a4, a5⟩ := h2
            refine ⟨a0, a1, a2, a3, a4, ?_⟩
            split at a5
            · exact a5
            · exact ⟨a5.1, fun e => hr _ _ (a5.2.1 e), fun e b hb => hr _ _ (a5.2.2 e b hb)⟩
            · exact ⟨a5.1, fun b hb => hr _ _ (a5.2 b hb)⟩
          · obtain ⟨a0, a1, a2, a3, a4, a5⟩ := h2
            refine ⟨a0, a1, a2, a3, a4, ?_⟩
            split at a5
            · exact a5
            · exact ⟨a5.1, fun e => hr _ _ (a5.2.1 e), fun e b hb => hr _ _ (a5.2.2 e b hb)⟩
            · exact ⟨a5.1, fun b hb => hr _ _ (a5.2 b hb)⟩
          · exact h2.elim
        · exact h.elim
      | _ => exact h.elim

def F0 : VV → Env → St → Prop := fun _ _ _ => False
theorem put_det {N : Nat} {env env' : Env} {d : Option Tmp} {y z : VV} (h : put N env d y = put N env d z) : put N env' d y = put N env' d z := by
  cases d with
  | none => rfl
  | some t =>
    simp only [put] at h ⊢
    split at h
    · rename_i ht
      have := congrFun h t
      simp only [upd, if_true] at this
      rw [this]
    · rename_i ht; simp only [ht, if_false]
theorem rd_put {N : Nat} {env : Env} {dst : Option Tmp} {u : VV} {x : Operand} (h : ∀ d, dst = some d → x ≠ .tmp d) : rd (put N env dst u) x = rd env x := by
  cases dst with
  | none => rfl
  | some t =>
    cases x with
    | tmp t' =>
      have : t' ≠ t := fun e => h t rfl (by rw [e])
      simp only [rd, put]
      split
      · simp [upd, this]
      · rfl
    | _ => rfl
theorem put_comm {N : Nat} {env : Env} {d d' : Option Tmp} {y u : VV} (h : ∀ t, d = some t → d' ≠ some t) : put N (put N env d y) d' u = put N (put N env d' u) d y := by
  cases d with
  | none => rfl
  | some t =>
    cases d' with
    | none => rfl
    | some t' =>
      have hne : t ≠ t' := fun e => h t rfl (by rw [e])
      simp only [put]
      split <;> split <;> try rfl
      funext x
      simp only [upd]
      by_cases h1 : x = t
      · subst h1; simp [hne]
      · simp [h1]

section
variable {P : Program} {N : Nat} {all : List Oper} {s : St}
def YV (P : Program) (N : Nat) (all : List Oper) (s : St) (o : Oper) (y : VV) (env : Env) : Prop := ∀ K : Env → St → Prop, K (put N env o.dst y) s → vgone P N all F0 o K env s
def vsOp (P : Program) (N : Nat) (all : List Oper) (s : St) (i : Nat) (K : Env → Prop) (env : Env) : Prop :=
  match all[i]? with
  | none => K env
  | some o => ∃ y, YV P N all s o y env ∧ K (put N env o.dst y)

theorem vgone_congr {E E' : VV → Env → St → Prop} {o : Oper} {K K' : Env → St → Prop} {env env' : Env} (hx : ∀ x ∈ o.op.operands.toList, rd env' x = rd env x) (hg : ∀ j b, o.guard = some (j, b) → yv all env' j = yv all env j)
    (hr : ∀ y s', K (put N env o.dst y) s' → K' (put N env' o.dst y) s') (hE : ∀ x s, E x env s → E' x env' s) (h : vgone P N all E o K env s) : vgone P N all E' o K' env' s := by
  unfold vgone at h ⊢
  cases ho : o.guard with
  | none => rw [ho] at h; exact vstep_congr hx hr hE h
  | some g =>
    obtain ⟨j, b⟩ := g
    rw [ho] at h
    simp only at h ⊢
    rw [hg j b ho]
    unfold vguard at h ⊢
    split at h
    · split at h
      · rename_i hb; rw [if_pos hb]; exact vstep_congr hx hr hE h
      · rename_i hb; rw [if_neg hb]; exact hr _ _ h
    · exact hr _ _ h
    · exact h.elim
theorem YV_same {o : Oper} {y : VV} {env env' : Env} (hx : ∀ x ∈ o.op.operands.toList, rd env' x = rd env x) (hg : ∀ j b, o.guard = some (j, b) → yv all env' j = yv all env j)
    (h : YV P N all s o y env) : YV P N all s o y env' := fun K hK =>
  vgone_congr hx hg (K := fun e s' => ∃ z, e = put N env o.dst z ∧ K (put N env' o.dst z) s') (fun z s' ⟨z', e, hk⟩ => by rw [put_det e]; exact hk) (fun _ _ h => h) (h _ ⟨y, rfl, hK⟩)
theorem YV_put {N : Nat} {all : List Oper} {o : Oper} {u : VV} {env : Env} {dst : Option Tmp} (hd : ∀ d, dst = some d → d ∉ o.looksAt all.toArray) :
    (∀ x ∈ o.op.operands.toList, rd (put N env dst u) x = rd env x) ∧ (∀ j b, o.guard = some (j, b) → yv all (put N env dst u) j = yv all env j) := by
  constructor
  · intro x hx
    refine rd_put fun d hd' hxd => hd d hd' ?_
    subst hxd
    exact List.mem_append_left _ (List.mem_filterMap.2 ⟨.tmp d, by simpa using hx, rfl⟩)
  · intro j b hg
    unfold yv
    cases hj : (all[j]?).bind (·.dst) with
    | none => rfl
    | some t =>
      simp only
      have : rd (put N env dst u) (.tmp t) = rd env (.tmp t) := rd_put fun d hd' hxd => hd d hd' (by
        injection hxd with hxd
        subst hxd
        refine List.mem_append_right _ ?_
        simp [hg, hj])
      exact this
theorem vsOp_mono {i : Nat} {K K' : Env → Prop} {env : Env} (h : ∀ e, K e → K' e) (hh : vsOp P N all s i K env) : vsOp P N all s i K' env := by
  unfold vsOp at *
  cases ho : all[i]? with
  | none => rw [ho] at hh; exact h _ hh
  | some o => rw [ho] at hh; obtain ⟨y, h1, h2⟩ := hh; exact ⟨y, h1, h _ h2⟩
theorem vsOp_put {j : Nat} {oi oj : Oper} {y : VV} (hj : all[j]? = some oj) (hap : oi.apart all.toArray oj = true) {K : Env → Prop} {env : Env} (hy : YV P N all s oi y env) (h : vsOp P N all s j K (put N env oi.dst y)) :
    vsOp P N all s j (fun e => YV P N all s oi y e ∧ K (put N e oi.dst y)) env := by
  obtain ⟨h1, h2, h3⟩ := Oper.apart_spec hap
  unfold vsOp at *
  rw [hj] at h ⊢
  obtain ⟨u, hu, hk⟩ := h
  refine ⟨u, ?_, ?_, ?_⟩
  · obtain ⟨e1, e2⟩ := YV_put (N := N) (u := y) (env := env) h1
    exact YV_same (fun x hx => (e1 x hx).symm) (fun j b hg => (e2 j b hg).symm) hu
  · obtain ⟨e1, e2⟩ := YV_put (N := N) (u := u) (env := env) h3
    exact YV_same e1 e2 hy
  · rw [← put_comm h2]; exact hk

theorem YV.vsOp {i : Nat} {o : Oper} {y : VV} {env : Env} (hi : all[i]? = some o) (hy : YV P N all s o y env) {K : Env → Prop} (h : K (put N env o.dst y)) : vsOp P N all s i K env := by
  unfold Go.Proofs.YtbfgdblebepgcaaDoor.vsOp
  rw [hi]
  exact ⟨y, hy, h⟩
theorem vopi_of_vsOp {E : VV → Env → St → Prop} {i : Nat} {K : Env → Prop} {K' : Env → St → Prop} {env : Env} (h : ∀ e, K e → K' e s) (hh : vsOp P N all s i K env) : vopi P N all E i K' env s := by
  unfold vsOp at hh
  unfold vopi
  cases ho : all[i]? with
  | none => rw [ho] at hh; exact h _ hh
  | some o =>
    rw [ho] at hh
    obtain ⟨y, h1, h2⟩ := hh
    exact vgone_congr (E := F0) (fun _ _ => rfl) (fun _ _ _ => rfl) (fun _ _ h => h) (fun _ _ h => h.elim) (h1 K' (h _ h2))

def vAnyL (P : Program) (N : Nat) (all : List Oper) (s : St) (n : Nat) (L : Array Bool → Env → Prop) : Nat → Array Bool → Env → Prop
  | 0, listed, env => L listed env
  | f + 1, listed, env => Region.ready .any all.toArray listed ≠ [] ∧ ∀ i ∈ Region.ready .any all.toArray listed, i < n ∧ vsOp P N all s i (vAnyL P N all s n L f (listed.setIfInBounds i true)) env

theorem vAny_of_head {n g : Nat} {L : Array Bool → Env → Prop} {K : Env → St → Prop} {E : VV → Env → St → Prop} (hL : ∀ listed env, L listed env → vAny P N all K E g listed env s) :
    ∀ (f : Nat) (listed : Array Bool) (env : Env), vAnyL P N all s n L f listed env → vAny P N all K E (f + g) listed env s
  | 0, listed, env, h => by rw [Nat.zero_add]; exact hL _ _ h
  | f + 1, listed, env, h => by
    rw [show f + 1 + g = (f + g) + 1 by omega]
    exact ⟨fun h0 => absurd h0 h.1, fun i hi => vopi_of_vsOp (fun e h' => vAny_of_head hL f _ e h') (h.2 i hi).2⟩

theorem vAnyL_first {n i : Nat} {oi : Oper} {y : VV} {L : Array Bool → Env → Prop} (hi : all[i]? = some oi)
    (hs : Region.sinkB .any all.toArray n = true) (hc : Region.chainB .any all.toArray n = true) (hn : n < all.toArray.size) (hin : i < n)
    (hdone : ∀ listed env, L listed env → ∀ j ∈ Region.ready .any all.toArray listed, n ≤ j) :
    ∀ (f : Nat) (listed : Array Bool) (env : Env), HeadInv .any all.toArray n listed →
      (∀ j oj, all.toArray[j]? = some oj → j ≠ i → listed.getD j true = false → (∀ e ∈ oj.after, Region.binds .any e = true → e.on ≠ i) → oi.apart all.toArray oj = true) →
      i ∈ Region.ready .any all.toArray listed → YV P N all s oi y env →
      vAnyL P N all s n L f (listed.setIfInBounds i true) (put N env oi.dst y) → vAnyL P N all s n L (f + 1) listed env := by
  intro f
  induction f with
  | zero =>
    intro listed env inv _ hr hy H
    have hun := (mem_ready.1 hr).1
    refine ⟨fun h => (by rw [h] at hr; cases hr), fun j hj => ?_⟩
    have hjn : j < n := by
      rcases Nat.lt_or_ge j n with h | h
      · exact h
      · exact absurd hj (tail_waits hs hc hn inv _ i rfl hin hun j h)
    refine ⟨hjn, ?_⟩
    by_cases hji : j = i
    · subst hji; exact hy.vsOp hi H
    · have := hdone _ _ H j (ready_mono hj hji)
      omega
  | succ f ih =>
    intro listed env inv hfree hr hy H
    have hun := (mem_ready.1 hr).1
    refine ⟨fun h => (by rw [h] at hr; cases hr), fun j hj => ?_⟩
    have hjn : j < n := by
      rcases Nat.lt_or_ge j n with h | h
      · exact h
      · exact absurd hj (tail_waits hs hc hn inv _ i rfl hin hun j h)
    refine ⟨hjn, ?_⟩
    by_cases hji : j = i
    · subst hji; exact hy.vsOp hi H
    · have h1 := (H.2 j (ready_mono hj hji)).2
      obtain ⟨hjun, oj, hoj, hall⟩ := mem_ready.1 hj
      have hnot : ∀ e ∈ oj.after, Region.binds .any e = true → e.on ≠ i := fun e he hb heq => by
        have h1 := hall e he hb
        rw [heq, getD_both hun] at h1
        cases h1
      have h2 := vsOp_put (by simpa using hoj) (hfree j oj hoj hji hjun hnot) hy h1
      have hfree' : ∀ k ok, all.toArray[k]? = some ok → k ≠ i → (listed.setIfInBounds j true).getD k true = false →
          (∀ e ∈ ok.after, Region.binds .any e = true → e.on ≠ i) → oi.apart all.toArray ok = true := fun k ok hk hki hun hno => by
        refine hfree k ok hk hki ?_ hno
        by_cases hjk : j = k
        · subst hjk; exact hjun
        · rw [getD_set_ne true hjk] at hun; exact hun
      refine vsOp_mono (fun e h3 => ih (listed.setIfInBounds j true) e (inv.set hj hjn) hfree' (ready_mono hr (Ne.symm hji)) h3.1 ?_) h2
      rw [Array.setIfInBounds_comm _ _ hji]
      exact h3.2

theorem vAny_of_seq {K : Env → St → Prop} {E : VV → Env → St → Prop} : ∀ (l : List Oper) (k : Nat) (listed : Array Bool) (env : Env) (s : St), (∀ j, l[j]? = all[k + j]?) →
    Region.seqB .any all.toArray l.length k listed = true → vops P N all K E l env s → vAny P N all K E l.length listed env s
  | [], _, _, _, _, _, hB, h => ⟨by simpa [Region.seqB] using hB, h⟩
  | o :: l, k, listed, env, s, hl, hB, h => by
    have h0 : all[k]? = some o := by simpa using (hl 0).symm
    simp only [List.length_cons, Region.seqB, Bool.and_eq_true, decide_eq_true_eq] at hB
    refine ⟨fun h1 => (by rw [hB.1] at h1; cases h1), fun i hi => ?_⟩
    rw [hB.1] at hi
    have hik : i = k := by simpa using hi
    subst hik
    unfold vopi
    rw [h0]
    have h' : vgone P N all E o (fun e s' => vops P N all K E l e s') env s := by
      unfold vgone
      simp only [vops] at h
      exact h
    exact vgone_congr (fun _ _ => rfl) (fun _ _ _ => rfl) (fun y s' hy => vAny_of_seq l (i + 1) _ _ s' (fun j => by have := hl (j + 1); simpa [Nat.add_assoc, Nat.add_comm 1 j] using this) hB.2 hy) (fun _ _ h => h) h'

/-- The walk through operations that leave the memory alone. -/
def vst (P : Program) (N : Nat) (all : List Oper) (s : St) (L : Env → Prop) : List Oper → Env → Prop
  | [], env => L env
  | o :: rest, env => ∃ y, YV P N all s o y env ∧ vst P N all s L rest (put N env o.dst y)

theorem vAnyL_lex {n g : Nat} {Lq : Env → Prop} (hsel : Region.noSelect all.toArray = true) (hs : Region.sinkB .any all.toArray n = true) (hc : Region.chainB .any all.toArray n = true) (hn : n < all.toArray.size) :
    ∀ (l : List Oper) (k : Nat) (listed : Array Bool) (env : Env), (∀ j, j < l.length → l[j]? = all[k + j]?) → k + l.length = n → HeadInv .any all.toArray n listed →
    Region.lexHead .any all.toArray g l.length k listed = true → vst P N all s Lq l env →
    vAnyL P N all s n (fun listed' e => Region.seqB .any all.toArray g n listed' = true ∧ Lq e) l.length listed env
  | [], k, listed, env, _, hk, _, hB, h => by
    have : k = n := by simpa using hk
    subst this
    exact ⟨by simpa [Region.lexHead] using hB, h⟩
  | o :: l, k, listed, env, hl, hk, inv, hB, h => by
    have h0 : all[k]? = some o := by simpa using (hl 0 (by simp)).symm
    simp only [List.length_cons, Region.lexHead, Bool.and_eq_true] at hB
    obtain ⟨⟨hr, hf⟩, hB'⟩ := hB
    have hkn : k < n := by simp only [List.length_cons] at hk; omega
    have hr' : k ∈ Region.ready .any all.toArray listed := by simpa using hr
    obtain ⟨y, hy, hK⟩ := h
    exact vAnyL_first h0 hs hc hn hkn (fun listed' e hL => seqB_ready hL.1) l.length listed env inv (Region.free_spec (by simpa using h0) hf) hr' hy
      (vAnyL_lex hsel hs hc hn l (k + 1) _ _ (fun j hj => by have := hl (j + 1) (by simp; omega); simpa [Nat.add_assoc, Nat.add_comm 1 j] using this) (by simp only [List.length_cons] at hk; omega) (inv.set hr' hkn) hB' hK)

theorem vAny_tail {K : Env → St → Prop} {E : VV → Env → St → Prop} {env : Env} (n : Nat) (hB : Region.lexTailB .any all.toArray n = true) (h : vst P N all s (fun e => vops P N all K E (all.drop n) e s) (all.take n) env) :
    vAny P N all K E all.length (Array.replicate all.length false) env s := by
  simp only [Region.lexTailB, Bool.and_eq_true, decide_eq_true_eq] at hB
  obtain ⟨⟨⟨⟨hsel, hn⟩, hs⟩, hc⟩, hlex⟩ := hB
  have hn' : n < all.length := by simpa using hn
  have htl : (all.take n).length = n := by simp; omega
  have hdl : (all.drop n).length = all.toArray.size - n := by simp
  have inv0 : HeadInv .any all.toArray n (Array.replicate all.toArray.size false) :=
    ⟨by simp, fun j oj _ hl => (by rw [getD_replicate_false] at hl; cases hl), fun t _ ht => getD_in (by simpa using ht) (getD_replicate_false _ _)⟩
  have H := vAnyL_lex (g := all.toArray.size - n) hsel hs hc hn (all.take n) 0 _ env (fun j hj => by
    have hj' : j < n := by rw [htl] at hj; exact hj
    simp [hj']) (by simpa using htl) inv0 (by rw [htl]; exact hlex) h
  have := vAny_of_head (K := K) (E := E) (g := all.toArray.size - n) (fun listed e hL => by
    have := vAny_of_seq (K := K) (E := E) (all.drop n) n listed e s (fun j => by simp [List.getElem?_drop]) (by rw [hdl]; exact hL.1) hL.2
    rwa [hdl] at this) _ _ _ H
  rw [htl, show n + (all.toArray.size - n) = all.length by simp; omega] at this
  simpa using this
theorem vst_val {L : Env → Prop} {o : Oper} {rest : List Oper} {env : Env} {y : VV} (h : ∀ K : Env → St → Prop, K (put N env o.dst y) s → vops P N all K F0 [o] env s) (h2 : vst P N all s L rest (put N env o.dst y)) : vst P N all s L (o :: rest) env :=
  ⟨y, fun K hK => h K hK, h2⟩
theorem vst_nil {L : Env → Prop} {env : Env} (h : L env) : vst P N all s L [] env := h
theorem L_drawT {D : List Deferred} {k : List Itm} {Q : Pst} {env : Env} {id : Nat} {ops : List Oper} (n : Nat) (hm : P.follows .mixedOrders = true) (hB : Region.lexTailB .any ops.toArray n = true)
    (h : ∀ (K : Env → St → Prop) (E : VV → Env → St → Prop), (∀ env s, Kp P N D k Q .norm env s → K env s) → (∀ x env s, Q (.panic x) env s → E x env s) →
      ∀ L : Env → Prop, (∀ e, vops P N ops K E (ops.drop n) e s → L e) → vst P N ops s L (ops.take n) env) :
    Kp P N D (.code (.region id ops.toArray true) :: k) Q .norm env s :=
  L_draw hm fun K E hK hE => vAny_tail n hB (h K E hK hE _ fun _ h => h)

/-- Yields the same in every memory. -/
def YP (P : Program) (N : Nat) (all : List Oper) (o : Oper) (y : VV) (env : Env) : Prop := ∀ s, YV P N all s o y env

theorem vopi_mono {E : VV → Env → St → Prop} {i : Nat} {K K' : Env → St → Prop} {env : Env} {s : St} (h : ∀ e s, K e s → K' e s) (hh : vopi P N all E i K env s) : vopi P N all E i K' env s := by
  unfold vopi at *
  cases ho : all[i]? with
  | none => rw [ho] at hh; exact h _ _ hh
  | some o =>
    rw [ho] at hh
    exact vgone_congr (fun _ _ => rfl) (fun _ _ _ => rfl) (fun _ _ => h _ _) (fun _ _ h => h) hh

theorem vAny_first {K : Env → St → Prop} {E : VV → Env → St → Prop} (hE : ∀ x env env' s, E x env s → E x env' s) {i : Nat} {oi : Oper} {y : VV} (hi : all[i]? = some oi) :
    ∀ (f : Nat) (listed : Array Bool) (env : Env) (s : St),
      (∀ j oj, all.toArray[j]? = some oj → j ≠ i → listed.getD j true = false → (∀ e ∈ oj.after, Region.binds .any e = true → e.on ≠ i) → oi.apart all.toArray oj = true) →
      i ∈ Region.ready .any all.toArray listed → YP P N all oi y env →
      vAny P N all K E f (listed.setIfInBounds i true) (put N env oi.dst y) s → vAny P N all K E (f + 1) listed env s := by
  have take : ∀ (env : Env) (s : St) (K' : Env → St → Prop), YP P N all oi y env → K' (put N env oi.dst y) s → vopi P N all E i K' env s := fun env s K' hy hk => by
    unfold vopi
    rw [hi]
    exact vgone_congr (E := F0) (fun _ _ => rfl) (fun _ _ _ => rfl) (fun _ _ h => h) (fun _ _ h => h.elim) (hy s K' hk)
  intro f
  induction f with
  | zero =>
    intro listed env s _ hr hy H
    refine ⟨fun h => (by rw [h] at hr; cases hr), fun j hj => ?_⟩
    by_cases hji : j = i
    · subst hji; exact take _ _ _ hy H
    · have := ready_mono hj hji
      rw [H.1] at this
      cases this
  | succ f ih =>
    intro listed env s hfree hr hy H
    refine ⟨fun h => (by rw [h] at hr; cases hr), fun j hj => ?_⟩
    by_cases hji : j = i
    · subst hji; exact take _ _ _ hy H
    · have h1 := H.2 j (ready_mono hj hji)
      obtain ⟨hjun, oj, hoj, hall⟩ := mem_ready.1 hj
      have hun := (mem_ready.1 hr).1
      have hnot : ∀ e ∈ oj.after, Region.binds .any e = true → e.on ≠ i := fun e he hb heq => by
        have h1 := hall e he hb
        rw [heq, getD_both hun] at h1
        cases h1
      have hap := hfree j oj hoj hji hjun hnot
      obtain ⟨a1, a2, a3⟩ := Oper.apart_spec hap
      have hfree' : ∀ k ok, all.toArray[k]? = some ok → k ≠ i → (listed.setIfInBounds j true).getD k true = false →
          (∀ e ∈ ok.after, Region.binds .any e = true → e.on ≠ i) → oi.apart all.toArray ok = true := fun k ok hk hki hun hno => by
        refine hfree k ok hk hki ?_ hno
        by_cases hjk : j = k
        · subst hjk; exact hjun
        · rw [getD_set_ne true hjk] at hun; exact hun
      have hj' : all[j]? = some oj := by simpa using hoj
      unfold vopi at h1 ⊢
      rw [hj'] at h1 ⊢
      obtain ⟨e1, e2⟩ := YV_put (N := N) (u := y) (env := env) a1
      refine vgone_congr (fun x hx => (e1 x hx).symm) (fun j b hg => (e2 j b hg).symm) (fun z s' hz => ?_) (fun x s' => hE x _ _ s') h1
      rw [Array.setIfInBounds_comm _ _ (Ne.symm hji)] at hz
      rw [put_comm a2] at hz
      refine ih (listed.setIfInBounds j true) (put N env oj.dst z) s' hfree' (ready_mono hr (Ne.symm hji)) (fun s'' => ?_) hz
      obtain ⟨q1, q2⟩ := YV_put (N := N) (u := z) (env := env) a3
      exact YV_same q1 q2 (hy s'')

theorem vAny_pure {K : Env → St → Prop} {E : VV → Env → St → Prop} (hE : ∀ x env env' s, E x env s → E x env' s) (i : Nat) {f : Nat} {listed : Array Bool} {env : Env} {s : St} {oi : Oper} {y : VV} (hi : all[i]? = some oi)
    (hB : ((Region.ready .any all.toArray listed).contains i && Region.free .any all.toArray listed i) = true)
    (hy : ∀ (s : St) (K' : Env → St → Prop), K' (put N env oi.dst y) s → vops P N all K' F0 [oi] env s)
    (h : vAny P N all K E f (listed.setIfInBounds i true) (put N env oi.dst y) s) : vAny P N all K E (f + 1) listed env s := by
  simp only [Bool.and_eq_true] at hB
  exact vAny_first hE hi f listed env s (Region.free_spec (by simpa using hi) hB.2) (by simpa using hB.1) (fun s K' hk => hy s K' hk) h
/-- Whichever comes next. -/
theorem vAny_each {K : Env → St → Prop} {E : VV → Env → St → Prop} {f : Nat} {listed : Array Bool} {env : Env} {s : St} (rs : List Nat) (hr : Region.ready .any all.toArray listed = rs) (hne : rs ≠ [])
    (h : ∀ i ∈ rs, ∀ K' : Env → St → Prop, (∀ e s', vAny P N all K E f (listed.setIfInBounds i true) e s' → K' e s') → match all[i]? with | none => False | some o => vops P N all K' E [o] env s) :
    vAny P N all K E (f + 1) listed env s := by
  refine ⟨fun e => absurd (hr.symm.trans e) hne, fun i hi => ?_⟩
  rw [hr] at hi
  have := h i hi _ (fun _ _ h => h)
  unfold vopi
  cases ho : all[i]? with
  | none => rw [ho] at this; exact this.elim
  | some o => rw [ho] at this; exact this
theorem vAny_end {K : Env → St → Prop} {E : VV → Env → St → Prop} {listed : Array Bool} {env : Env} {s : St} (hr : Region.ready .any all.toArray listed = []) (h : K env s) : vAny P N all K E 0 listed env s := ⟨hr, h⟩
theorem L_drawE {D : List Deferred} {k : List Itm} {Q : Pst} {env : Env} {id : Nat} {ops : List Oper} (hm : P.follows .mixedOrders = true) (hQ : ∀ x env env' s, Q (.panic x) env s → Q (.panic x) env' s)
    (h : ∀ (K : Env → St → Prop) (E : VV → Env → St → Prop), (∀ env s, Kp P N D k Q .norm env s → K env s) → (∀ x env s, Q (.panic x) env s → E x env s) → (∀ x env env' s, E x env s → E x env' s) →
      vAny P N ops K E ops.length (Array.replicate ops.length false) env s) :
    Kp P N D (.code (.region id ops.toArray true) :: k) Q .norm env s := by
  intro w0 G w a hf hD hS
  refine wp_region_any hm ?_
  have := h (fun env s => Kp P N D k Q .norm env s) (fun x env s => Q (.panic x) env s) (fun _ _ h => h) (fun _ _ _ h => h) hQ
  exact vAny_sound (Q := Kp P N D k Q) (fun _ _ h => h) (fun x env s h => by rw [Kp_panic]; exact h) _ _ env s this w0 G _ a hf hD ⟨⟨hS.below.os, hS.below.tape, hS.below.output, hS.below.size, hS.below.block⟩, hS.K, hS.cap, hS.ok, hS.gl, hS.rows⟩
end
end Go.Proofs.YtbfgdblebepgcaaDoor
