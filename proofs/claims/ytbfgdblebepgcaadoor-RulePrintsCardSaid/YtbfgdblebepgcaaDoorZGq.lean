/- What is proved: Regions whose last operations make two objects and fill them, in whatever order. Conditions: those that stand in the statements. -/
import Derived.Test.YtbfgdblebepgcaaDoorZGp
set_option linter.unusedSimpArgs false
set_option linter.unusedVariables false
set_option linter.unusedVariables false
namespace Go.Proofs.YtbfgdblebepgcaaDoor
open Go.RowKit

section
variable {P : Program} {N : Nat} {all : List Oper}
/-- The second memory is as the first wherever that holds something. -/
def Agree (s s' : St) : Prop := ∀ x, s x ≠ .free → s' x = s x
theorem Agree.refl (s : St) : Agree s s := fun _ _ => rfl
theorem Agree.set {s s' : St} (h : Agree s s') {b : Nat} (hb : s b = .free) (c : Cell) : Agree s (s'.set b c) := fun x hx => by
  by_cases he : x = b
  · subst he; exact absurd hb hx
  · rw [St.set_other _ _ he]; exact h x hx
theorem vload_agree {s s' : St} (h : Agree s s') {q : QI} {a : VV} {y : VV} (hv : vload q a s = some y) : vload q a s' = vload q a s := by
  cases a with
  | ptr b off =>
    have : s b ≠ .free := fun e => by simp [vload, e] at hv
    simp only [vload, h b this]
  | _ => rfl
theorem vlookup_agree {s s' : St} (h : Agree s s') {q qe qk : QI} {m k : VV} {ok : Bool} {y : VV} (hv : vlookup q qe qk m k ok s = some y) : vlookup q qe qk m k ok s' = vlookup q qe qk m k ok s := by
  obtain ⟨qk', _, _, _, _⟩ := q
  cases m with
  | mp b =>
    cases qk' <;> first | rfl | skip
    have : s b ≠ .free := fun e => by simp [vlookup, e] at hv
    simp only [vlookup, h b this]
  | _ => cases qk' <;> rfl
theorem vlen_agree {s s' : St} (h : Agree s s') {q : QI} {x : VV} {y : VV} (hv : vlen q x s = some y) : vlen q x s' = vlen q x s := by
  obtain ⟨qk', _, _, _, _⟩ := q
  cases x with
  | mp b =>
    cases qk' <;> first | rfl | skip
    have : s b ≠ .free := fun e => by simp [vlen, e] at hv
    simp only [vlen, h b this]
  | _ => cases qk' <;> rfl
theorem vstep_held {o : Oper} {E : VV → Env → St → Prop} {rest : Env → St → Prop} {env : Env} {s s' : St} (ha : Agree s s') (h : vstep P N E o rest env s) : heldO P env s o.op s' := by
  obtain ⟨d, op, ty, p, af, g⟩ := o
  have opt : ∀ {α : Type} {f : α → Prop} {z : Option α}, optB f z → ∃ y, z = some y := fun {α f z} hz => by
    cases z with
    | none => exact hz.elim
    | some y => exact ⟨y, rfl⟩
  cases op <;> first | trivial | skip
  case load T a => simp only [vstep] at h; obtain ⟨y, hy⟩ := opt h; exact vload_agree ha hy
  case lookup T m k ok => simp only [vstep] at h; obtain ⟨y, hy⟩ := opt h; exact vlookup_agree ha hy
  case call c =>
    obtain ⟨cal, args, ts⟩ := c
    cases cal <;> first | trivial | skip
    rename_i b
    cases b <;> first | trivial | skip
    case len =>
      simp only [heldO]
      split
      · rename_i x T hx hT
        simp only [vstep, hx, hT] at h
        obtain ⟨y, hy⟩ := opt h
        exact vlen_agree ha hy
      · trivial
theorem vgone_held {o : Oper} {E : VV → Env → St → Prop} {rest : Env → St → Prop} {env : Env} {s s' : St} (ha : Agree s s') (h : vgone P N all E o rest env s) : heldG P all env s o s' := by
  unfold vgone at h
  unfold heldG
  cases hg : o.guard with
  | none => rw [hg] at h; exact vstep_held ha h
  | some g =>
    obtain ⟨j, w⟩ := g
    rw [hg] at h
    simp only at h ⊢
    unfold heldB vguard at *
    cases hy : yv all env j <;> rw [hy] at h <;> first | trivial | skip
    rename_i b
    simp only at h ⊢
    by_cases hb : b = w
    · rw [if_pos hb] at h ⊢; exact vstep_held ha h
    · rw [if_neg hb]; trivial
theorem head_go2 {K : Env → St → Prop} {E : VV → Env → St → Prop} {keep : List Nat} (hE : EOk N keep E) {l2 : Array Bool} {f : Nat} {s : St} {Kh : Env → St → Prop} :
    ∀ (is : List Nat) (ops : List Oper), is.map (fun i => all[i]?) = ops.map some → ∀ (listed : Array Bool) (env : Env), closedB all listed = true → headB all keep is listed l2 = true → vops P N all Kh F0 ops env s →
      ∃ envf, Kh envf s ∧ (∀ t, (∀ o ∈ ops, o.dst ≠ some t) → envf t = env t) ∧ (∀ s', Agree s s' → heldL P all envf s ops s') ∧
        ∀ I : Array Bool → St → Prop, HM all I → I listed s → vAnyI P N all (fun l s'' => I l s'' ∧ heldF P all envf s is l s'') K E f l2 envf s → vAnyI P N all I K E (f + is.length) listed env s
  | [], ops, hm, listed, env, hcl, hB, h => by
    have : ops = [] := by simpa using hm.symm
    subst this
    have : listed = l2 := by simpa [headB] using hB
    subst this
    exact ⟨env, h, fun _ _ => rfl, fun _ _ => trivial, fun I _ _ H => vAnyI_weak (fun l s h => h.1) _ _ _ _ H⟩
  | i :: is, ops, hm, listed, env, hcl, hB, h => by
    cases ops with
    | nil => simp at hm
    | cons o ops =>
      simp only [List.map_cons, List.cons.injEq] at hm
      obtain ⟨hi, hm'⟩ := hm
      simp only [headB, hi, Bool.and_eq_true, List.all_cons] at hB
      obtain ⟨⟨⟨⟨⟨hh, hdk⟩, hself, hno⟩, hr⟩, hf⟩, hB'⟩ := hB
      have hr' : i ∈ Region.ready .any all.toArray listed := by simpa using hr
      have hih : headAt all i = true := by unfold headAt; rw [hi]; exact hh
      have h' : vgone P N all F0 o (fun e s' => vops P N all Kh F0 ops e s') env s := by
        unfold vgone
        simp only [vops] at h
        exact h
      obtain ⟨y, hy, hY⟩ := vgone_head hh h'
      obtain ⟨envf, hk, hag, hld, himp⟩ := head_go2 hE is ops hm' _ _ (closed_set hcl hr') hB' hy
      have nod : ∀ o' ∈ o :: ops, ∀ d, o'.dst = some d → d ∉ o.looksAt all.toArray := by
        intro o' ho' d hd
        rcases List.mem_cons.1 ho' with rfl | ho'
        · simp only [noDst, hi, hd, Bool.not_eq_true', List.contains_eq_mem, decide_eq_false_iff_not] at hself
          exact hself
        · have : some o' ∈ is.map (fun i => all[i]?) := by rw [hm']; exact List.mem_map.2 ⟨o', ho', rfl⟩
          obtain ⟨j, hj, hjo⟩ := List.mem_map.1 this
          have := List.all_eq_true.1 hno j hj
          simp only [noDst, hjo, hd, Bool.not_eq_true', List.contains_eq_mem, decide_eq_false_iff_not] at this
          exact this
      have agree : ∀ t, t ∈ o.looksAt all.toArray → envf t = env t := by
        intro t ht
        have h1 : envf t = put N env o.dst y t := hag t fun o' ho' hd => nod o' (List.mem_cons_of_mem _ ho') t hd ht
        rw [h1]
        have := rd_put (N := N) (env := env) (dst := o.dst) (u := y) (x := .tmp t) fun d hd e => nod o (List.mem_cons_self ..) d hd (by injection e with e; subst e; exact ht)
        exact this
      have HX : ∀ x ∈ o.op.operands.toList, rd env x = rd envf x := fun x hx => by
        cases x with
        | tmp t => exact (agree t (List.mem_append_left _ (List.mem_filterMap.2 ⟨.tmp t, by simpa using hx, rfl⟩))).symm
        | _ => rfl
      have HG : ∀ j b, o.guard = some (j, b) → yv all env j = yv all envf j := fun j b hgd => by
        unfold yv
        cases hj : (all[j]?).bind (·.dst) with
        | none => rfl
        | some t =>
          refine (agree t (List.mem_append_right _ ?_)).symm
          simp [hgd, hj]
      refine ⟨envf, hk, fun t ht => ?_, fun s' ha => ⟨heldG_congr (fun x hx => (HX x hx).symm) (fun j b hgd => (HG j b hgd).symm) (vgone_held ha h'), hld s' ha⟩, fun I hM hI H => ?_⟩
      · have h1 : envf t = put N env o.dst y t := hag t fun o' ho' => ht o' (List.mem_cons_of_mem _ ho')
        rw [h1]
        have := rd_put (N := N) (env := env) (dst := o.dst) (u := y) (x := .tmp t) fun d hd e => by injection e with e; subst e; exact ht o (List.mem_cons_self ..) hd
        exact this
      · have hoi : all[i]? = some o := hi
        have hx : ∀ x ∈ o.op.operands.toList, rd env x = rd envf x := fun x hx => by
          cases x with
          | tmp t => exact (agree t (List.mem_append_left _ (List.mem_filterMap.2 ⟨.tmp t, by simpa using hx, rfl⟩))).symm
          | _ => rfl
        have hg : ∀ j b, o.guard = some (j, b) → yv all env j = yv all envf j := fun j b hgd => by
          unfold yv
          cases hj : (all[j]?).bind (·.dst) with
          | none => rfl
          | some t =>
            refine (agree t (List.mem_append_right _ ?_)).symm
            simp [hgd, hj]
        have hrefl := (heldL_refl (P := P) (all := all) (env := env) (s := s) (l := [o])).1
        refine vAnyI_first (J := fun s'' => heldG P all env s o s'') hE hM hoi hih hdk (f + is.length) listed env s hcl (Region.free_spec (by simpa using hoi) hf) hr' (fun s' hs => hY s' hs) hI hrefl ?_
        refine himp _ (fun k hk l s'' => ?_) ⟨(hM _ hih _ _).2 hI, fun _ => hrefl⟩ (vAnyI_weak (fun l s'' hs => ?_) _ _ _ _ H)
        · rw [freeOf_set hk, hM k hk l s'']
        · obtain ⟨h1, h2⟩ := hs
          unfold heldF at h2 ⊢
          cases hfo : freeOf all i l with
          | false =>
            rw [List.filter_cons, hfo] at h2
            exact ⟨⟨h1, fun h => by cases h⟩, h2⟩
          | true =>
            rw [List.filter_cons, hfo] at h2
            simp only [if_true, pickL, hi] at h2
            exact ⟨⟨h1, fun _ => heldG_congr hx hg h2.1⟩, h2.2⟩

theorem qi_zlen {T : TypeId} (h : (qi P T).zok = true) : (qi P T).z.length = (qi P T).sz ∧ 0 < (qi P T).sz := by
  unfold qi at *
  split at h
  · split at h
    · simp only [Bool.and_eq_true, decide_eq_true_eq, beq_iff_eq] at h
      exact ⟨by simp [h.1.1.1.1], h.1.2⟩
    · cases h
  · cases h
theorem stepA {i : Nat} {d : Tmp} {T ty : TypeId} {p : String} {af : Array Edge} {E : VV → Env → St → Prop} {K : Env → St → Prop} {env : Env} {s : St} (h : all[i]? = some ⟨some d, .alloc T, ty, p, af, none⟩) (hz : (qi P T).zok = true)
    (hr : ∀ b, s b = .free → K (put N env (some d) (.ptr b 0)) (s.set b (.obj T (qi P T).z))) : vopi P N all E i K env s := by
  unfold vopi; rw [h]; exact ⟨hz, fun b hb => hr b hb.1⟩
theorem stepS {i b : Nat} {d : Tmp} {T ty : TypeId} {x : Operand} {p : String} {af : Array Edge} {E : VV → Env → St → Prop} {K : Env → St → Prop} {env : Env} {s : St} (h : all[i]? = some ⟨none, .store T (.tmp d) x, ty, p, af, none⟩) (hz : (qi P T).zok = true)
    (he : env d = .ptr b 0) (hs : s b = .obj T (qi P T).z) (hx : (rd env x).cells.length = (qi P T).sz) (h1 : (rd env x).cells.all VV.one = true)
    (hr : K env (s.set b (.obj T (rd env x).cells))) : vopi P N all E i K env s := by
  unfold vopi
  rw [h]
  have hzl := qi_zlen hz
  have : vstore (qi P T) (.ptr b 0) (rd env x) s = some (s.set b (.obj T (rd env x).cells)) := by
    simp only [vstore, hs]
    rw [if_pos ⟨hx, hzl.2, by omega, h1⟩]
    have : splice (qi P T).z 0 (rd env x).cells = (rd env x).cells := by
      unfold splice
      rw [List.take_zero, List.nil_append, List.drop_eq_nil_iff.2 (by omega), List.append_nil]
    rw [this]
  show optB _ (vstore (qi P T) (rd env (.tmp d)) (rd env x) s)
  rw [show rd env (.tmp d) = VV.ptr b 0 from he, this]
  exact hr

/-- Something of these, and nothing else. -/
def subB (x y : List Nat) : Bool := x.all (fun i => y.contains i) && !x.isEmpty
theorem vI_succ {I : Array Bool → St → Prop} {K : Env → St → Prop} {E : VV → Env → St → Prop} {f : Nat} {L : Array Bool} {env : Env} {s : St} {rs : List Nat} (hr : subB (Region.ready .any all.toArray L) rs = true)
    (h : ∀ i ∈ rs, vopi P N all E i (fun env s => I (L.setIfInBounds i true) s ∧ vAnyI P N all I K E f (L.setIfInBounds i true) env s) env s) : vAnyI P N all I K E (f + 1) L env s :=
  ⟨fun e => by rw [e] at hr; simp [subB] at hr, fun i hi => h i (by
    simp only [subB, Bool.and_eq_true] at hr
    simpa using List.all_eq_true.1 hr.1 i hi)⟩
def rdy (all : List Oper) (L : Array Bool) (is : List Nat) : List Nat := Region.ready .any all.toArray (markAll is L)
def pairR (all : List Oper) (L : Array Bool) (a b u v : Nat) : Bool :=
  subB (rdy all L []) [a, b] && subB (rdy all L [a]) [b, u] && subB (rdy all L [b]) [a, v] && subB (rdy all L [a, b]) [u, v] && subB (rdy all L [b, a]) [u, v] && subB (rdy all L [a, u]) [b] && subB (rdy all L [b, v]) [a] &&
  subB (rdy all L [a, b, u]) [v] && subB (rdy all L [a, b, v]) [u] && subB (rdy all L [b, a, u]) [v] && subB (rdy all L [b, a, v]) [u] && subB (rdy all L [a, u, b]) [v] && subB (rdy all L [b, v, a]) [u] &&
  rdy all L [a, b, u, v] == [] && rdy all L [a, b, v, u] == [] && rdy all L [b, a, u, v] == [] && rdy all L [b, a, v, u] == [] && rdy all L [a, u, b, v] == [] && rdy all L [b, v, a, u] == []
theorem set_comm' {s : St} {x y : Nat} {c d : Cell} (h : x ≠ y) : (s.set x c).set y d = (s.set y d).set x c := by
  funext z
  simp only [St.set]
  by_cases h1 : z = x
  · subst h1; simp [h]
  · simp [h1]
theorem pair_go {I : Array Bool → St → Prop} {K : Env → St → Prop} {E : VV → Env → St → Prop} {L : Array Bool} {env : Env} {s : St} {a b u v : Nat} {d1 d2 : Tmp} {T1 T2 y1 y2 y3 y4 : TypeId} {p1 p2 p3 p4 : String} {f1 f2 f3 f4 : Array Edge} {x1 x2 : Operand}
    (ha : all[a]? = some ⟨some d1, .alloc T1, y1, p1, f1, none⟩) (hb : all[b]? = some ⟨some d2, .alloc T2, y2, p2, f2, none⟩)
    (hu : all[u]? = some ⟨none, .store T1 (.tmp d1) x1, y3, p3, f3, none⟩) (hv : all[v]? = some ⟨none, .store T2 (.tmp d2) x2, y4, p4, f4, none⟩)
    (hn1 : d1 < N) (hn2 : d2 < N) (hd : d1 ≠ d2) (q11 : x1 ≠ .tmp d1) (q12 : x1 ≠ .tmp d2) (q21 : x2 ≠ .tmp d1) (q22 : x2 ≠ .tmp d2) (hR : pairR all L a b u v = true)
    (hI : ∀ l s', Agree s s' → I l s') (z1 : (qi P T1).zok = true) (z2 : (qi P T2).zok = true) (c1 : (rd env x1).cells.length = (qi P T1).sz) (o1 : (rd env x1).cells.all VV.one = true)
    (c2 : (rd env x2).cells.length = (qi P T2).sz) (o2 : (rd env x2).cells.all VV.one = true)
    (hK : ∀ b1, s b1 = .free → ∀ b2, s b2 = .free → ¬ b2 = b1 → K (put N (put N env (some d1) (.ptr b1 0)) (some d2) (.ptr b2 0)) ((s.set b1 (.obj T1 (rd env x1).cells)).set b2 (.obj T2 (rd env x2).cells))) :
    vAnyI P N all I K E 4 L env s := by
  simp only [pairR, rdy, markAll, Bool.and_eq_true, beq_iff_eq] at hR
  obtain ⟨⟨⟨⟨⟨⟨⟨⟨⟨⟨⟨⟨⟨⟨⟨⟨⟨⟨r0, ra⟩, rb⟩, rab⟩, rba⟩, rau⟩, rbv⟩, rabu⟩, rabv⟩, rbau⟩, rbav⟩, raub⟩, rbva⟩, e1⟩, e2⟩, e3⟩, e4⟩, e5⟩, e6⟩ := hR
  have rd1 : ∀ {x : Operand} {d : Tmp} {y : VV} (e : Env), x ≠ .tmp d → rd (put N e (some d) y) x = rd e x := fun e h => rd_put fun d' hd' => by injection hd' with hd'; subst hd'; exact h
  have pt : ∀ {d : Tmp} {y : VV} (e : Env), d < N → put N e (some d) y d = y := fun e h => by simp [put, h, upd]
  have po : ∀ {d d' : Tmp} {y : VV} (e : Env), d' ≠ d → put N e (some d) y d' = e d' := fun e h => by
    simp only [put]; split
    · simp [upd, h]
    · rfl
  have pc : ∀ {y y' : VV} (e : Env), put N (put N e (some d2) y') (some d1) y = put N (put N e (some d1) y) (some d2) y' := fun e => put_comm fun t ht => by injection ht with ht; subst ht; simp [hd]
  have fr : ∀ {c : Nat} {T : TypeId} {xs : List VV} {b2 : Nat}, (s.set c (.obj T xs)) b2 = .free → ¬ b2 = c ∧ s b2 = .free := fun h => by rw [set_free_o] at h; exact ⟨h.1, h.2.2⟩
  -- after both objects are made
  have fin12 : ∀ b1, s b1 = .free → ∀ b2, s b2 = .free → ¬ b2 = b1 → ∀ (e : Env) (s' : St), e = put N (put N env (some d1) (.ptr b1 0)) (some d2) (.ptr b2 0) → s' = (s.set b1 (.obj T1 (qi P T1).z)).set b2 (.obj T2 (qi P T2).z) →
      ∀ M, subB (Region.ready .any all.toArray M) [u, v] = true → subB (Region.ready .any all.toArray (M.setIfInBounds u true)) [v] = true → subB (Region.ready .any all.toArray (M.setIfInBounds v true)) [u] = true →
      Region.ready .any all.toArray ((M.setIfInBounds u true).setIfInBounds v true) = [] → Region.ready .any all.toArray ((M.setIfInBounds v true).setIfInBounds u true) = [] → vAnyI P N all I K E 2 M e s' := by
    intro b1 hb1 b2 hb2 hne e s' he hs' M m0 mu mv muv mvu
    have he1 : e d1 = .ptr b1 0 := by rw [he, po _ hd, pt _ hn1]
    have he2 : e d2 = .ptr b2 0 := by rw [he, pt _ hn2]
    have hr1 : rd e x1 = rd env x1 := by rw [he, rd1 _ q12, rd1 _ q11]
    have hr2 : rd e x2 = rd env x2 := by rw [he, rd1 _ q22, rd1 _ q21]
    have hs1 : s' b1 = .obj T1 (qi P T1).z := by rw [hs', St.set_other _ _ (fun h => hne h.symm), St.set_same]
    have hs2 : s' b2 = .obj T2 (qi P T2).z := by rw [hs', St.set_same]
    have hag : Agree s s' := by rw [hs']; exact ((Agree.refl s).set hb1 _).set hb2 _
    have k1 : (s'.set b1 (.obj T1 (rd env x1).cells)).set b2 (.obj T2 (rd env x2).cells) = (s.set b1 (.obj T1 (rd env x1).cells)).set b2 (.obj T2 (rd env x2).cells) := by
      rw [hs', set_comm' (x := b2) (y := b1) (fun h => hne h), St.set_set, St.set_set]
    have k2 : (s'.set b2 (.obj T2 (rd env x2).cells)).set b1 (.obj T1 (rd env x1).cells) = (s.set b1 (.obj T1 (rd env x1).cells)).set b2 (.obj T2 (rd env x2).cells) := by
      rw [set_comm' (x := b2) (y := b1) (fun h => hne h), k1]
    refine vI_succ m0 fun i hi => ?_
    rcases List.mem_cons.1 hi with rfl | hi
    · refine stepS hu z1 he1 hs1 (by rw [hr1]; exact c1) (by rw [hr1]; exact o1) ⟨hI _ _ (hag.set hb1 _), vI_succ mu fun j hj => ?_⟩
      obtain rfl := List.mem_singleton.1 hj
      refine stepS hv z2 he2 (by rw [St.set_other _ _ hne]; exact hs2) (by rw [hr2]; exact c2) (by rw [hr2]; exact o2) ⟨hI _ _ ((hag.set hb1 _).set hb2 _), muv, ?_⟩
      rw [hr1, hr2, k1, he]
      exact hK b1 hb1 b2 hb2 hne
    · obtain rfl := List.mem_singleton.1 hi
      refine stepS hv z2 he2 hs2 (by rw [hr2]; exact c2) (by rw [hr2]; exact o2) ⟨hI _ _ (hag.set hb2 _), vI_succ mv fun j hj => ?_⟩
      obtain rfl := List.mem_singleton.1 hj
      refine stepS hu z1 he1 (by rw [St.set_other _ _ (fun h => hne h.symm)]; exact hs1) (by rw [hr1]; exact c1) (by rw [hr1]; exact o1) ⟨hI _ _ ((hag.set hb2 _).set hb1 _), mvu, ?_⟩
      rw [hr1, hr2, k2, he]
      exact hK b1 hb1 b2 hb2 hne
  refine vI_succ r0 fun i hi => ?_
  rcases List.mem_cons.1 hi with rfl | hi
  · refine stepA ha z1 fun b1 hb1 => ⟨hI _ _ ((Agree.refl s).set hb1 _), vI_succ ra fun j hj => ?_⟩
    rcases List.mem_cons.1 hj with rfl | hj
    · refine stepA hb z2 fun b2 hb2 => ?_
      obtain ⟨hne, hb2⟩ := fr hb2
      exact ⟨hI _ _ (((Agree.refl s).set hb1 _).set hb2 _), fin12 b1 hb1 b2 hb2 hne _ _ rfl rfl _ rab rabu rabv e1 e2⟩
    · obtain rfl := List.mem_singleton.1 hj
      refine stepS hu z1 (pt _ hn1) (St.set_same _ _ _) (by rw [rd1 _ q11]; exact c1) (by rw [rd1 _ q11]; exact o1) ⟨hI _ _ (((Agree.refl s).set hb1 _).set hb1 _), vI_succ rau fun k hk => ?_⟩
      obtain rfl := List.mem_singleton.1 hk
      refine stepA hb z2 fun b2 hb2 => ?_
      rw [St.set_set] at hb2 ⊢
      obtain ⟨hne, hb2⟩ := fr hb2
      refine ⟨hI _ _ (((Agree.refl s).set hb1 _).set hb2 _), vI_succ raub fun m hm => ?_⟩
      obtain rfl := List.mem_singleton.1 hm
      refine stepS hv z2 (pt _ hn2) (St.set_same _ _ _) (by rw [rd1 _ q22, rd1 _ q21]; exact c2) (by rw [rd1 _ q22, rd1 _ q21]; exact o2) ⟨hI _ _ ((((Agree.refl s).set hb1 _).set hb2 _).set hb2 _), e5, ?_⟩
      rw [St.set_set, rd1 _ q22, rd1 _ q21, rd1 _ q11]
      exact hK b1 hb1 b2 hb2 hne
  · obtain rfl := List.mem_singleton.1 hi
    refine stepA hb z2 fun b2 hb2 => ⟨hI _ _ ((Agree.refl s).set hb2 _), vI_succ rb fun j hj => ?_⟩
    rcases List.mem_cons.1 hj with rfl | hj
    · refine stepA ha z1 fun b1 hb1 => ?_
      obtain ⟨hne, hb1⟩ := fr hb1
      exact ⟨hI _ _ (((Agree.refl s).set hb2 _).set hb1 _), fin12 b1 hb1 b2 hb2 (fun h => hne h.symm) _ _ (pc _) (set_comm' (fun h => hne h.symm)) _ rba rbau rbav e3 e4⟩
    · obtain rfl := List.mem_singleton.1 hj
      refine stepS hv z2 (pt _ hn2) (St.set_same _ _ _) (by rw [rd1 _ q22]; exact c2) (by rw [rd1 _ q22]; exact o2) ⟨hI _ _ (((Agree.refl s).set hb2 _).set hb2 _), vI_succ rbv fun k hk => ?_⟩
      obtain rfl := List.mem_singleton.1 hk
      refine stepA ha z1 fun b1 hb1 => ?_
      rw [St.set_set] at hb1 ⊢
      obtain ⟨hne, hb1⟩ := fr hb1
      refine ⟨hI _ _ (((Agree.refl s).set hb2 _).set hb1 _), vI_succ rbva fun m hm => ?_⟩
      obtain rfl := List.mem_singleton.1 hm
      refine stepS hu z1 (pt _ hn1) (St.set_same _ _ _) (by rw [rd1 _ q11, rd1 _ q12]; exact c1) (by rw [rd1 _ q11, rd1 _ q12]; exact o1) ⟨hI _ _ ((((Agree.refl s).set hb2 _).set hb1 _).set hb1 _), e6, ?_⟩
      rw [St.set_set, rd1 _ q11, rd1 _ q12, rd1 _ q22, set_comm' (x := b2) (y := b1) (fun h => hne h.symm), pc]
      exact hK b1 hb1 b2 hb2 (fun h => hne h.symm)

def opNe (x : Operand) (d : Tmp) : Bool := match x with | .tmp t => t != d | _ => true
theorem opNe_ne {x : Operand} {d : Tmp} (h : opNe x d = true) : x ≠ .tmp d := by
  rintro rfl
  simp [opNe] at h
def pairN (N : Nat) (d1 d2 : Tmp) (x1 x2 : Operand) : Bool := decide (d1 < N) && decide (d2 < N) && d1 != d2 && opNe x1 d1 && opNe x1 d2 && opNe x2 d1 && opNe x2 d2
theorem pairN_spec {N : Nat} {d1 d2 : Tmp} {x1 x2 : Operand} (h : pairN N d1 d2 x1 x2 = true) : d1 < N ∧ d2 < N ∧ d1 ≠ d2 ∧ x1 ≠ .tmp d1 ∧ x1 ≠ .tmp d2 ∧ x2 ≠ .tmp d1 ∧ x2 ≠ .tmp d2 := by
  simp only [pairN, Bool.and_eq_true, decide_eq_true_eq, bne_iff_ne] at h
  obtain ⟨⟨⟨⟨⟨⟨h1, h2⟩, h3⟩, h4⟩, h5⟩, h6⟩, h7⟩ := h
  exact ⟨h1, h2, h3, opNe_ne h4, opNe_ne h5, opNe_ne h6, opNe_ne h7⟩
/-- Two objects are made and filled: as if each were made full, one behind the other. -/
def vPair (P : Program) (N : Nat) (all : List Oper) (K : Env → St → Prop) (a b u v : Nat) (env : Env) (s : St) : Prop :=
  ∃ (d1 d2 : Tmp) (T1 T2 y1 y2 y3 y4 : TypeId) (p1 p2 p3 p4 : String) (f1 f2 f3 f4 : Array Edge) (x1 x2 : Operand),
    (all[a]? = some ⟨some d1, .alloc T1, y1, p1, f1, none⟩ ∧ all[b]? = some ⟨some d2, .alloc T2, y2, p2, f2, none⟩ ∧ all[u]? = some ⟨none, .store T1 (.tmp d1) x1, y3, p3, f3, none⟩ ∧ all[v]? = some ⟨none, .store T2 (.tmp d2) x2, y4, p4, f4, none⟩) ∧
    (d1 < N ∧ d2 < N ∧ d1 ≠ d2 ∧ x1 ≠ .tmp d1 ∧ x1 ≠ .tmp d2 ∧ x2 ≠ .tmp d1 ∧ x2 ≠ .tmp d2) ∧ ((qi P T1).zok = true ∧ (qi P T2).zok = true) ∧
    ((rd env x1).cells.length = (qi P T1).sz ∧ (rd env x1).cells.all VV.one = true ∧ (rd env x2).cells.length = (qi P T2).sz ∧ (rd env x2).cells.all VV.one = true) ∧
    (∀ b1, s b1 = .free → ∀ b2, (s.set b1 (.obj T1 (rd env x1).cells)) b2 = .free → K (put N (put N env (some d1) (.ptr b1 0)) (some d2) (.ptr b2 0)) ((s.set b1 (.obj T1 (rd env x1).cells)).set b2 (.obj T2 (rd env x2).cells)))
def vPl2 (P : Program) (N : Nat) (all : List Oper) (K : Env → St → Prop) (fin : List Nat) (a b u v : Nat) (env : Env) (s : St) : Prop :=
  ∀ Kh : Env → St → Prop, @Kof (vPair P N all K a b u v) Kh → vops P N all Kh F0 (pickL all fin) env s
def plan2B (all : List Oper) (keep : List Nat) (fin : List Nat) (a b u v : Nat) (listed : Array Bool) : Bool :=
  decide (all.length = 4 + fin.length) && closedB all listed && headB all keep fin listed (markAll fin listed) && pairR all (markAll fin listed) a b u v
theorem G_plan2 {D : List Deferred} {k : List Itm} {Q : Pst} {env : Env} {s : St} (id : Nat) {ops : List Oper} {keep : List Nat} (fin : List Nat) (a b u v : Nat) (hQ : EOk N keep (fun x => Q (.panic x)))
    (h : ∀ (K : Env → St → Prop) (E : VV → Env → St → Prop), @Kof (Kp P N D k Q .norm) K → @Eof (fun x => Q (.panic x)) E → vPl2 P N ops K fin a b u v env s)
    (hm : P.follows .mixedOrders = true := by decide +kernel) (hB : plan2B ops keep fin a b u v (Array.replicate ops.length false) = true := by decide +kernel) :
    Kp P N D (.code (.region id ops.toArray true) :: k) Q .norm env s := by
  refine G_draw hm hQ fun K E hK hE hEe hI hM => ?_
  simp only [plan2B, Bool.and_eq_true, decide_eq_true_eq] at hB
  obtain ⟨⟨⟨hl, hcl⟩, hh⟩, hR⟩ := hB
  have hh2 := h K E hK hE
  obtain ⟨envf, hk, _, hld, himp⟩ := head_go2 (K := K) hEe fin (pickL ops fin) (pickL_some fin _ hh) _ env hcl hh (hh2 _ (fun _ _ h => h))
  refine (congrArg (fun n => vAnyI P N ops (fun _ _ => True) K E n (Array.replicate ops.length false) env s) hl).mpr ?_
  refine himp _ hM hI ?_
  obtain ⟨d1, d2, T1, T2, y1, y2, y3, y4, p1, p2, p3, p4, f1, f2, f3, f4, x1, x2, ⟨ha, hb, hu, hv⟩, ⟨n1, n2, n3, q11, q12, q21, q22⟩, ⟨z1, z2⟩, ⟨c1, o1, c2, o2⟩, hv2⟩ := hk
  refine pair_go ha hb hu hv n1 n2 n3 q11 q12 q21 q22 hR (fun l s' hag => ⟨trivial, ?_⟩) z1 z2 c1 o1 c2 o2 ?_
  · have hall := hld s' hag
    unfold heldF
    have sub : ∀ (is : List Nat), heldL P ops envf s (pickL ops is) s' → ∀ f : Nat → Bool, heldL P ops envf s (pickL ops (is.filter f)) s' := by
      intro is
      induction is with
      | nil => intro _ f; trivial
      | cons i is ih =>
        intro h f
        rw [List.filter_cons]
        simp only [pickL] at h
        cases hi : ops[i]? with
        | none =>
          rw [hi] at h
          cases hf : f i with
          | true => simp only [if_true, pickL, hi]; exact ih h f
          | false => simp only [Bool.false_eq_true, if_false]; exact ih h f
        | some o =>
          rw [hi] at h
          cases hf : f i with
          | true => simp only [if_true, pickL, hi]; exact ⟨h.1, ih h.2 f⟩
          | false => simp only [Bool.false_eq_true, if_false]; exact ih h.2 f
    exact sub fin hall _
  · intro b1 hb1 b2 hb2 hne
    exact hv2 b1 hb1 b2 (by rw [St.set_other _ _ hne]; exact hb2)
theorem P_fin2 {K : Env → St → Prop} {fin : List Nat} {a b u v : Nat} {env : Env} {s : St} {ops : List Oper}
    (h : ∀ Kh : Env → St → Prop, @Kof (vPair P N all K a b u v) Kh → vops P N all Kh F0 ops env s) (hp : pickL all fin = ops := by (simp only [pick0, pick1, pick2, List.getElem?_cons_zero, List.getElem?_cons_succ] <;> rfl)) : vPl2 P N all K fin a b u v env s := by
  subst hp; exact h
theorem P_pair {K : Env → St → Prop} {a b u v : Nat} {env : Env} {s : St} {d1 d2 : Tmp} {T1 T2 y1 y2 y3 y4 : TypeId} {p1 p2 p3 p4 : String} {f1 f2 f3 f4 : Array Edge} {x1 x2 : Operand}
    (h : ∀ b1, s b1 = .free → ∀ b2, (s.set b1 (.obj T1 (rd env x1).cells)) b2 = .free → K (put N (put N env (some d1) (.ptr b1 0)) (some d2) (.ptr b2 0)) ((s.set b1 (.obj T1 (rd env x1).cells)).set b2 (.obj T2 (rd env x2).cells)))
    (ha : all[a]? = some ⟨some d1, .alloc T1, y1, p1, f1, none⟩ := by (simp only [List.getElem?_cons_zero, List.getElem?_cons_succ] <;> rfl)) (hb : all[b]? = some ⟨some d2, .alloc T2, y2, p2, f2, none⟩ := by (simp only [List.getElem?_cons_zero, List.getElem?_cons_succ] <;> rfl))
    (hu : all[u]? = some ⟨none, .store T1 (.tmp d1) x1, y3, p3, f3, none⟩ := by (simp only [List.getElem?_cons_zero, List.getElem?_cons_succ] <;> rfl)) (hv : all[v]? = some ⟨none, .store T2 (.tmp d2) x2, y4, p4, f4, none⟩ := by (simp only [List.getElem?_cons_zero, List.getElem?_cons_succ] <;> rfl))
    (hn : pairN N d1 d2 x1 x2 = true := by decide)
    (hz : (qi P T1).zok = true ∧ (qi P T2).zok = true := by (simp (disch := first | assumption | omega) only [go_sem, seval, *]))
    (hc : (rd env x1).cells.length = (qi P T1).sz ∧ (rd env x1).cells.all VV.one = true ∧ (rd env x2).cells.length = (qi P T2).sz ∧ (rd env x2).cells.all VV.one = true := by (simp (disch := first | assumption | omega) only [go_sem, seval, *])) :
    vPair P N all K a b u v env s := ⟨d1, d2, T1, T2, y1, y2, y3, y4, p1, p2, p3, p4, f1, f2, f3, f4, x1, x2, ⟨ha, hb, hu, hv⟩, pairN_spec hn, hz, hc, h⟩
end
end Go.Proofs.YtbfgdblebepgcaaDoor
