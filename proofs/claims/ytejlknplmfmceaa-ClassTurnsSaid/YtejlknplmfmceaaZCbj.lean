/- What is proved: Each class finds what its parent finds: plain facts. Conditions: a right source; What has which number in a source, in closed form: plain facts; Classes in another order: plain facts. Conditions: those that stand in the statements; Each variable's text begins with its method's: plain facts. Conditions: a right source; A class that is added: plain facts. Conditions: those that stand in the statements. Conditions: those that stand in the statements. -/
import Derived.Test.YtejlknplmfmceaaZCa
import Derived.Test.YtejlknplmfmceaaZFzj
set_option linter.unusedSimpArgs false
set_option linter.unusedVariables false
set_option maxRecDepth 100000
namespace Go.Proofs.Ytejlknplmfmceaa
open Go.RowKit

theorem ixT_at {l : List (List UInt8)} (hn : l.Nodup) {i : Nat} {k : List UInt8} (h : l[i]? = some k) : ixT k l = some i := by
  induction l generalizing i with
  | nil => simp at h
  | cons a r ih =>
    rw [List.nodup_cons] at hn
    cases i with
    | zero => simp at h; subst h; simp [ixT]
    | succ i =>
      have h' : r[i]? = some k := by simpa using h
      have hne : ¬ k = a := fun e => hn.1 (e ▸ List.mem_of_getElem? h')
      simp only [ixT]
      rw [if_neg hne, ih hn.2 h']
      rfl
theorem ixT_get {k : List UInt8} {l : List (List UInt8)} {i : Nat} (h : ixT k l = some i) : l[i]? = some k := ixT_lt h
/-- What is known of a right source. -/
structure Right (x : List Cls) : Prop where
  chk : checkB x = true
  nod : (x.map (·.nm)).Nodup
  up : ∀ c, c ∈ x → (upN x c.nm).2 = true
  mth : ∀ c, c ∈ x → ∀ (j : Nat) (m : Mth), c.mths[j]? = some m → hdOk x c j m = true ∧ bodyR x m = true
  main : mainR x = true
theorem start_le {x : List Cls} {i : Nat} {c : Cls} (hi : x[i]? = some c) : startN x (i + 1) = startN x i + c.mths.length := by
  unfold startN
  rw [utake hi, List.map_append, List.sum_append]
  simp
end Go.Proofs.Ytejlknplmfmceaa
set_option maxRecDepth 100000
namespace Go.Proofs.Ytejlknplmfmceaa
open Go.RowKit

def stK : Stm → Int | .mk k _ _ _ _ _ _ _ => k
def stNm : Stm → List UInt8 | .mk _ _ _ _ m _ _ _ => m
def sitesL (L : List Stm) : List (List UInt8) := (L.filter fun s => decide (stK s = 1)).map stNm
def callsN (L : List Stm) : Nat := (L.filter fun s => decide (stK s = 5) || decide (stK s = 6)).length
def fldL (L : List Stm) : List (List UInt8) := (L.filter fun s => decide (stK s = 3) || decide (stK s = 4)).map stNm
def namL (L : List Stm) : List (List UInt8) := (L.filter fun s => decide (stK s = 5)).map stNm
def txtL (L : List Stm) : List (List UInt8) := (L.map stTxt).flatten
theorem addsS_app {l a b : List (List UInt8)} : addsS l (a ++ b) = addsS (addsS l a) b := by unfold addsS; rw [List.foldl_append]
theorem addsS_nil {l : List (List UInt8)} : addsS l [] = l := rfl
theorem addsS_one {l : List (List UInt8)} {t : List UInt8} : addsS l [t] = addS l t := rfl
theorem sitesL_cons {s : Stm} {L : List Stm} : sitesL (s :: L) = (if stK s = 1 then [stNm s] else []) ++ sitesL L := by
  unfold sitesL; rw [List.filter_cons]; by_cases h : stK s = 1 <;> simp [h]
theorem callsN_cons {s : Stm} {L : List Stm} : callsN (s :: L) = callsN L + (if stK s = 5 ∨ stK s = 6 then 1 else 0) := by
  unfold callsN; rw [List.filter_cons]; by_cases h : stK s = 5 ∨ stK s = 6
  · rw [if_pos h, if_pos (by simpa using h)]; simp
  · rw [if_neg h, if_neg (by simpa using h)]; rfl
theorem fldL_cons {s : Stm} {L : List Stm} : fldL (s :: L) = (if stK s = 3 ∨ stK s = 4 then [stNm s] else []) ++ fldL L := by
  unfold fldL; rw [List.filter_cons]; by_cases h : stK s = 3 ∨ stK s = 4
  · rw [if_pos h, if_pos (by simpa using h)]; simp
  · rw [if_neg h, if_neg (by simpa using h)]; rfl
theorem namL_cons {s : Stm} {L : List Stm} : namL (s :: L) = (if stK s = 5 then [stNm s] else []) ++ namL L := by
  unfold namL; rw [List.filter_cons]; by_cases h : stK s = 5 <;> simp [h]
theorem txtL_cons {s : Stm} {L : List Stm} : txtL (s :: L) = stTxt s ++ txtL L := by simp [txtL]
theorem stmN_fold (txt : List UInt8) (n : Nat) : ∀ (L : List Stm) (q : Nms) (v : List (List UInt8)), L.foldl (stmN txt n) (q, v) =
    ({ q with sites := q.sites ++ sitesL L, calls := q.calls ++ List.replicate (callsN L) txt, home := q.home ++ List.replicate (callsN L) n, fields := addsS q.fields (fldL L), names := addsS q.names (namL L) }, addsS v (txtL L))
  | [], q, v => by simp [sitesL, callsN, fldL, namL, txtL, addsS]
  | .mk k d s c m ar o t :: L, q, v => by
    rw [List.foldl_cons, sitesL_cons, callsN_cons, fldL_cons, namL_cons, txtL_cons]
    simp only [addsS_app]
    have e1 : stK (.mk k d s c m ar o t) = k := rfl
    have e2 : stNm (.mk k d s c m ar o t) = m := rfl
    have e3 : stTxt (.mk k d s c m ar o t) = d :: s :: ar := rfl
    rw [e1, e2, e3]
    by_cases h1 : k = 1
    · subst h1
      simp only [stmN, if_true]
      rw [stmN_fold txt n L]
      simp [addsS_nil]
    · by_cases h5 : k = 5
      · subst h5
        simp only [stmN, if_true]
        rw [if_neg (by decide)]
        rw [stmN_fold txt n L]
        simp [addsS_nil, addsS_one, List.replicate_succ]
      · by_cases h6 : k = 6
        · subst h6
          simp only [stmN, if_true]
          rw [if_neg (by decide), if_neg (by decide)]
          rw [stmN_fold txt n L]
          simp [addsS_nil, List.replicate_succ]
        · by_cases h34 : k = 3 ∨ k = 4
          · simp only [stmN]
            rw [if_neg h1, if_neg h5, if_neg h6, if_pos h34]
            rw [stmN_fold txt n L]
            rw [if_neg h1, if_neg (by rintro (h | h); exact h5 h; exact h6 h), if_pos h34, if_neg h5, addsS_one]
            simp [addsS_nil]
          · simp only [stmN]
            rw [if_neg h1, if_neg h5, if_neg h6, if_neg h34]
            rw [stmN_fold txt n L]
            rw [if_neg h1, if_neg (by rintro (h | h); exact h5 h; exact h6 h), if_neg h34, if_neg h5]
            simp [addsS_nil]
def varsM (m : Mth) : List (List UInt8) := addsS (vars0 m) (txtL (preL m.body))
theorem mthN_eq (c : Cls) (q : Nms) (m : Mth) : mthN c q m =
    { mths := q.mths ++ [mthT c m], vars := q.vars ++ (varsM m).map (fun v => mthT c m ++ [46] ++ v), sites := q.sites ++ sitesL (preL m.body), calls := q.calls ++ List.replicate (callsN (preL m.body)) (mthT c m),
      owner := q.owner ++ (varsM m).map (fun _ => q.mths.length), home := q.home ++ List.replicate (callsN (preL m.body)) q.mths.length, main := if mthT c m = [77, 97, 105, 110, 58, 58, 109, 97, 105, 110] then q.mths.length else q.main,
      fields := addsS q.fields (fldL (preL m.body)), names := addsS q.names (namL (preL m.body)) } := by
  unfold mthN
  simp only
  rw [stmN_fold]
  rfl
def pairsM (x : List Cls) : List (Cls × Mth) := (x.map fun c => c.mths.map fun m => (c, m)).flatten
def nms0 : Nms := ⟨[], [], [], [], [], [], 0, [], []⟩
def pairQ (q : Nms) (p : Cls × Mth) : Nms := mthN p.1 q p.2
theorem clsN_pair (q : Nms) (c : Cls) : clsN q c = (c.mths.map fun m => (c, m)).foldl pairQ q := by
  unfold clsN
  generalize c.mths = ms
  induction ms generalizing q with
  | nil => rfl
  | cons m ms ih => rw [List.foldl_cons, List.map_cons, List.foldl_cons]; exact ih _
theorem names_pairs (x : List Cls) : namesN x = (pairsM x).foldl pairQ nms0 := by
  unfold namesN pairsM
  show x.foldl clsN nms0 = _
  generalize nms0 = q
  induction x generalizing q with
  | nil => rfl
  | cons c x ih =>
    rw [List.foldl_cons, List.map_cons, List.flatten_cons, List.foldl_append, ← clsN_pair]
    exact ih _
theorem pairs_mths (ps : List (Cls × Mth)) (q : Nms) : (ps.foldl pairQ q).mths = q.mths ++ ps.map fun p => mthT p.1 p.2 := by
  induction ps generalizing q with
  | nil => simp
  | cons p ps ih => rw [List.foldl_cons, ih, pairQ, mthN_eq]; simp
theorem pairs_vars (ps : List (Cls × Mth)) (q : Nms) : (ps.foldl pairQ q).vars = q.vars ++ (ps.map fun p => (varsM p.2).map fun v => mthT p.1 p.2 ++ [46] ++ v).flatten := by
  induction ps generalizing q with
  | nil => simp
  | cons p ps ih => rw [List.foldl_cons, ih, pairQ, mthN_eq]; simp
theorem pairs_sites (ps : List (Cls × Mth)) (q : Nms) : (ps.foldl pairQ q).sites = q.sites ++ (ps.map fun p => sitesL (preL p.2.body)).flatten := by
  induction ps generalizing q with
  | nil => simp
  | cons p ps ih => rw [List.foldl_cons, ih, pairQ, mthN_eq]; simp
theorem pairs_calls (ps : List (Cls × Mth)) (q : Nms) : (ps.foldl pairQ q).calls = q.calls ++ (ps.map fun p => List.replicate (callsN (preL p.2.body)) (mthT p.1 p.2)).flatten := by
  induction ps generalizing q with
  | nil => simp
  | cons p ps ih => rw [List.foldl_cons, ih, pairQ, mthN_eq]; simp
theorem pairs_fields (ps : List (Cls × Mth)) (q : Nms) : (ps.foldl pairQ q).fields = addsS q.fields (ps.map fun p => fldL (preL p.2.body)).flatten := by
  induction ps generalizing q with
  | nil => simp [addsS]
  | cons p ps ih => rw [List.foldl_cons, ih, pairQ, mthN_eq, List.map_cons, List.flatten_cons, addsS_app]
theorem pairs_names (ps : List (Cls × Mth)) (q : Nms) : (ps.foldl pairQ q).names = addsS q.names (ps.map fun p => namL (preL p.2.body)).flatten := by
  induction ps generalizing q with
  | nil => simp [addsS]
  | cons p ps ih => rw [List.foldl_cons, ih, pairQ, mthN_eq, List.map_cons, List.flatten_cons, addsS_app]
/-- Texts put in one by one stand there once each. -/
theorem addS_nodup {l : List (List UInt8)} {t : List UInt8} (h : l.Nodup) : (addS l t).Nodup := by
  unfold addS
  split
  · exact h
  · rename_i hn
    rw [not_or] at hn
    rw [List.nodup_append]
    exact ⟨h, by simp, fun a ha b hb e => by rw [List.mem_singleton] at hb; subst hb; subst e; exact hn.2 ha⟩
theorem addsS_nodup : ∀ (ts : List (List UInt8)) {l : List (List UInt8)}, l.Nodup → (addsS l ts).Nodup
  | [], l, h => h
  | t :: ts, l, h => addsS_nodup ts (addS_nodup h)
theorem addS_mem {l : List (List UInt8)} {t u : List UInt8} : u ∈ addS l t ↔ u ∈ l ∨ (u = t ∧ t ≠ []) := by
  unfold addS
  split
  · rename_i h
    constructor
    · exact fun h => .inl h
    · rintro (h1 | ⟨rfl, h1⟩)
      · exact h1
      · rcases h with h | h
        · exact absurd h h1
        · exact h
  · rename_i h
    rw [not_or] at h
    rw [List.mem_append, List.mem_singleton]
    constructor
    · rintro (h1 | h1)
      · exact .inl h1
      · exact .inr ⟨h1, h.1⟩
    · rintro (h1 | h1)
      · exact .inl h1
      · exact .inr h1.1
theorem addsS_mem {u : List UInt8} : ∀ (ts : List (List UInt8)) {l : List (List UInt8)}, u ∈ addsS l ts ↔ u ∈ l ∨ (u ∈ ts ∧ u ≠ [])
  | [], l => by simp [addsS]
  | t :: ts, l => by
    show u ∈ addsS (addS l t) ts ↔ _
    rw [addsS_mem ts, addS_mem, List.mem_cons]
    constructor
    · rintro ((h | ⟨rfl, h⟩) | ⟨h1, h2⟩)
      · exact .inl h
      · exact .inr ⟨.inl rfl, h⟩
      · exact .inr ⟨.inr h1, h2⟩
    · rintro (h | ⟨rfl | h1, h2⟩)
      · exact .inl (.inl h)
      · exact .inl (.inr ⟨rfl, h2⟩)
      · exact .inr ⟨h1, h2⟩
/-- As many texts, in whatever order they are put in. -/
theorem addsS_perm {a b : List (List UInt8)} (h : a.Perm b) : (addsS [] a).length = (addsS [] b).length := by
  have h1 : (addsS [] a).Perm (addsS [] b) := by
    rw [List.perm_ext_iff_of_nodup (addsS_nodup a (by simp)) (addsS_nodup b (by simp))]
    intro u
    rw [addsS_mem, addsS_mem, h.mem_iff]
  exact h1.length_eq
end Go.Proofs.Ytejlknplmfmceaa
set_option maxRecDepth 100000
namespace Go.Proofs.Ytejlknplmfmceaa
open Go.RowKit

def clsAt (x : List Cls) (n : List UInt8) : Option Cls := (atC x n).bind fun k => x[k]?
def chainC (x : List Cls) : Nat → List UInt8 → List Cls × Bool
  | 0, _ => ([], false)
  | f + 1, n => if n = [] then ([], true) else match clsAt x n with
    | none => ([], false)
    | some c => (c :: (chainC x f c.par).1, (chainC x f c.par).2)
theorem atC_get {x : List Cls} {n : List UInt8} {k : Nat} (h : atC x n = some k) : ∃ c, x[k]? = some c ∧ c.nm = n := by
  have := ixT_get h
  rw [List.getElem?_map] at this
  obtain ⟨c, h1, h2⟩ := Option.map_eq_some_iff.1 this
  exact ⟨c, h1, h2⟩
theorem clsAt_some {x : List Cls} {n : List UInt8} {k : Nat} {c : Cls} (h : atC x n = some k) (hc : x[k]? = some c) : clsAt x n = some c := by unfold clsAt; rw [h]; exact hc
theorem clsAt_none {x : List Cls} {n : List UInt8} (h : atC x n = none) : clsAt x n = none := by unfold clsAt; rw [h]; rfl
theorem clsAt_isSome {x : List Cls} {n : List UInt8} : (clsAt x n).isSome = (atC x n).isSome := by
  cases h : atC x n with
  | none => rw [clsAt_none h]; rfl
  | some k => obtain ⟨c, hc, _⟩ := atC_get h; rw [clsAt_some h hc]; rfl
theorem chain_cls (x : List Cls) : ∀ (f : Nat) (n : List UInt8), (chainN x f n).1.map (fun k => x[k]?) = (chainC x f n).1.map some ∧ (chainN x f n).2 = (chainC x f n).2
  | 0, _ => ⟨rfl, rfl⟩
  | f + 1, n => by
    simp only [chainN, chainC]
    by_cases h0 : n = []
    · rw [if_pos h0, if_pos h0]; exact ⟨rfl, rfl⟩
    · rw [if_neg h0, if_neg h0]
      cases h : atC x n with
      | none => rw [clsAt_none h]; exact ⟨rfl, rfl⟩
      | some k =>
        obtain ⟨c, hc, _⟩ := atC_get h
        rw [clsAt_some h hc]
        obtain ⟨h1, h2⟩ := chain_cls x f c.par
        simp only [hc, Option.map_some, Option.getD_some, List.map_cons]
        rw [h1]
        exact ⟨rfl, h2⟩
theorem clsAt_iff {x : List Cls} (hn : (x.map (·.nm)).Nodup) {n : List UInt8} {c : Cls} : clsAt x n = some c ↔ c ∈ x ∧ c.nm = n := by
  constructor
  · intro h
    cases h1 : atC x n with
    | none => rw [clsAt_none h1] at h; cases h
    | some k =>
      obtain ⟨d, hd, e⟩ := atC_get h1
      rw [clsAt_some h1 hd] at h
      injection h with h
      subst h
      exact ⟨List.mem_of_getElem? hd, e⟩
  · rintro ⟨h, rfl⟩
    obtain ⟨i, hi⟩ := List.mem_iff_getElem?.1 h
    exact clsAt_some (ixT_at hn (by rw [List.getElem?_map, hi]; rfl)) hi
section
variable {x y : List Cls} (hp : x.Perm y) (hn : (x.map (·.nm)).Nodup)
include hp hn
theorem nod_perm : (y.map (·.nm)).Nodup := (hp.map _).nodup hn
theorem clsAt_perm (n : List UInt8) : clsAt x n = clsAt y n := by
  apply Option.ext
  intro c
  rw [clsAt_iff hn, clsAt_iff (nod_perm hp hn), hp.mem_iff]
theorem chainC_perm : ∀ (f : Nat) (n : List UInt8), chainC x f n = chainC y f n
  | 0, _ => rfl
  | f + 1, n => by
    simp only [chainC]
    rw [clsAt_perm hp hn n]
    cases clsAt y n with
    | none => rfl
    | some c => simp only [chainC_perm f c.par]
end
def upC (x : List Cls) (n : List UInt8) : List Cls × Bool := chainC x (x.length + 1) n
def fitC (m : Mth) (c : Cls) : Bool := match ownM c m.nm with | none => true | some y => y.stat == m.stat && decide (y.pars.length = m.pars.length)
theorem all_opt {α : Type} {x : List α} {p : Nat → Bool} {q : α → Bool} (h : ∀ k c, x[k]? = some c → p k = q c) : ∀ (l : List Nat) (l' : List α), l.map (fun k => x[k]?) = l'.map some → l.all p = l'.all q
  | [], [], _ => rfl
  | [], _ :: _, e => by cases e
  | _ :: _, [], e => by cases e
  | k :: l, c :: l', e => by
    simp only [List.map_cons, List.cons.injEq] at e
    simp only [List.all_cons]
    rw [h k c e.1, all_opt h l l' e.2]
theorem hdOk_cls {x : List Cls} {c : Cls} {j : Nat} {m : Mth} : hdOk x c j m = (decide (ownI c m.nm = some j) && (parsB m.pars && (upC x c.par).1.all (fitC m))) := by
  unfold hdOk upN upC
  rw [all_opt (x := x) (p := fitB x m) (q := fitC m) (fun k c h => by unfold fitB fitC; simp only [h]; cases ownM c m.nm <;> rfl) _ _ (chain_cls x (x.length + 1) c.par).1]
def hitC (n : List UInt8) (st : Bool) (c : Cls) : Option Mth := match ownM c n with | none => none | some m => if m.stat = st then some m else none
def firstC (n : List UInt8) (st : Bool) : List Cls → Option Mth
  | [] => none
  | c :: l => match hitC n st c with | some m => some m | none => firstC n st l
theorem hit_cls {x : List Cls} {n : List UInt8} {st : Bool} {k : Nat} {c : Cls} (h : x[k]? = some c) : (hitN x n st k).map (·.2) = hitC n st c := by
  unfold hitN hitC ownM
  rw [h]
  simp only
  cases ho : ownI c n with
  | none => rfl
  | some j =>
    simp only [Option.bind_some]
    cases c.mths[j]? with
    | none => rfl
    | some m => simp only; split <;> rfl
theorem first_cls {x : List Cls} {n : List UInt8} {st : Bool} : ∀ (l : List Nat) (l' : List Cls), l.map (fun k => x[k]?) = l'.map some → (firstN x n st l).map (·.2) = firstC n st l'
  | [], [], _ => rfl
  | [], _ :: _, e => by cases e
  | _ :: _, [], e => by cases e
  | k :: l, c :: l', e => by
    simp only [List.map_cons, List.cons.injEq] at e
    have h1 := hit_cls (n := n) (st := st) e.1
    have ih := first_cls (n := n) (st := st) l l' e.2
    simp only [firstN, firstC]
    rw [← h1]
    cases hitN x n st k with
    | none => exact ih
    | some r => rfl
def lookC (x : List Cls) (cls n : List UInt8) (st : Bool) : Option Mth := firstC n st (upC x cls).1
theorem look_cls {x : List Cls} {cls n : List UInt8} {st : Bool} : (lookN x cls n st).map (·.2) = lookC x cls n st := first_cls _ _ (chain_cls x (x.length + 1) cls).1
def stmC' (x : List Cls) (st : Bool) : Stm → Bool
  | .mk k d s c n ar _ _ => !((decide (d = selfT) && decide (k ≠ 4)) || (st && (decide (d = selfT) || decide (s = selfT) || ar.any fun a => decide (a = selfT)))) &&
      (if k = 1 then (clsAt x n).isSome else if k = 6 then (match lookC x c n true with | none => false | some y => decide (y.pars.length = ar.length)) else if k = 5 then calledB x n ar.length else true)
theorem stmR_cls {x : List Cls} {st : Bool} {s : Stm} : stmR x st s = stmC' x st s := by
  obtain ⟨k, d, s, c, n, ar, o, t⟩ := s
  simp only [stmR, stmC']
  rw [clsAt_isSome, ← look_cls]
  congr 1
  split
  · rfl
  · split
    · cases lookN x c n true <;> rfl
    · rfl
theorem any_perm {α : Type} {x y : List α} (h : x.Perm y) (p : α → Bool) : x.any p = y.any p := by
  rw [Bool.eq_iff_iff, List.any_eq_true, List.any_eq_true]
  constructor
  · rintro ⟨a, ha, hp⟩; exact ⟨a, h.mem_iff.1 ha, hp⟩
  · rintro ⟨a, ha, hp⟩; exact ⟨a, h.mem_iff.2 ha, hp⟩
theorem all_perm {α : Type} {x y : List α} (h : x.Perm y) (p : α → Bool) : x.all p = y.all p := by
  rw [Bool.eq_iff_iff, List.all_eq_true, List.all_eq_true]
  constructor
  · intro k a ha; exact k a (h.mem_iff.2 ha)
  · intro k a ha; exact k a (h.mem_iff.1 ha)
section
variable {x y : List Cls} (hp : x.Perm y) (hn : (x.map (·.nm)).Nodup)
include hp hn
theorem upC_perm (n : List UInt8) : upC x n = upC y n := by
  unfold upC; rw [hp.length_eq]; exact chainC_perm hp hn _ _
theorem hdOk_perm {c : Cls} {j : Nat} {m : Mth} : hdOk x c j m = hdOk y c j m := by rw [hdOk_cls, hdOk_cls, upC_perm hp hn]
theorem stmR_perm {st : Bool} {s : Stm} : stmR x st s = stmR y st s := by
  rw [stmR_cls, stmR_cls]
  obtain ⟨k, d, s, c, n, ar, o, t⟩ := s
  simp only [stmC', lookC, clsAt_perm hp hn, upC_perm hp hn, calledB, any_perm hp]
theorem bodyR_perm {m : Mth} : bodyR x m = bodyR y m := by
  unfold bodyR
  congr 1
  funext s
  exact stmR_perm hp hn
theorem mthsR_perm {c : Cls} : mthsR x c = mthsR y c := by
  unfold mthsR
  congr 1
  funext j
  cases c.mths[j]? with
  | none => rfl
  | some m => simp only [hdOk_perm hp hn, bodyR_perm hp hn]
end
theorem mainR_cls {x : List Cls} : mainR x = match clsAt x [77, 97, 105, 110] with | none => false | some c => match ownM c [109, 97, 105, 110] with | none => false | some m => m.stat && decide (m.pars.length = 0) := by
  unfold mainR
  cases h : atC x [77, 97, 105, 110] with
  | none => rw [clsAt_none h]
  | some k =>
    obtain ⟨c, hc, _⟩ := atC_get h
    rw [clsAt_some h hc]
    simp only [hc]
    cases ownM c [109, 97, 105, 110] <;> rfl
theorem allM_perm {x y : List Cls} (h : x.Perm y) : (allM x).Perm (allM y) := by
  induction h with
  | nil => exact .nil
  | cons c _ ih => simp only [allM]; exact ih.append_left _
  | swap a b l =>
    simp only [allM]
    rw [← List.append_assoc, ← List.append_assoc]
    exact List.perm_append_comm.append_right _
  | trans _ _ ih1 ih2 => exact ih1.trans ih2
theorem totM_perm {x y : List Mth} (h : x.Perm y) : totM x = totM y := by
  induction h with
  | nil => rfl
  | cons c _ ih => simp only [totM, ih]
  | swap a b l => simp only [totM]; omega
  | trans _ _ ih1 ih2 => exact ih1.trans ih2
theorem checkB_perm {x y : List Cls} (h : x.Perm y) : checkB x = checkB y := by
  unfold checkB
  rw [h.length_eq, all_perm h, all_perm (allM_perm h), totM_perm (allM_perm h)]
/-- Whether a source is right does not hang on the order of its classes. -/
theorem rightE_perm {x y : List Cls} (hp : x.Perm y) : rightE x = rightE y := by
  unfold rightE
  rw [checkB_perm hp]
  by_cases hc : checkB y = false
  · rw [if_pos hc, if_pos hc]
  · rw [if_neg hc, if_neg hc]
    by_cases hn : (x.map (·.nm)).Nodup
    · have hn2 := nod_perm hp hn
      have e1 : (x.all fun c => (upN x c.nm).2) = (y.all fun c => (upN y c.nm).2) := by
        rw [all_perm hp]
        congr 1
        funext c
        unfold upN
        rw [(chain_cls x _ _).2, (chain_cls y _ _).2]
        have := upC_perm hp hn c.nm
        unfold upC at this
        rw [this]
      have e2 : x.all (mthsR x) = y.all (mthsR y) := by
        rw [all_perm hp]
        congr 1
        funext c
        exact mthsR_perm hp hn
      have e3 : mainR x = mainR y := by rw [mainR_cls, mainR_cls, clsAt_perm hp hn]
      rw [if_neg (show ¬ ¬ (x.map (·.nm)).Nodup from fun h => h hn), if_neg (show ¬ ¬ (y.map (·.nm)).Nodup from fun h => h hn2), e1, e2, e3]
    · have hn2 : ¬ (y.map (·.nm)).Nodup := fun h => hn (nod_perm hp.symm h)
      rw [if_pos hn, if_pos hn2]
theorem flat_perm {α β : Type} {x y : List α} (h : x.Perm y) (f : α → List β) : ((x.map f).flatten).Perm ((y.map f).flatten) := by
  induction h with
  | nil => exact .nil
  | cons c _ ih => simp only [List.map_cons, List.flatten_cons]; exact ih.append_left _
  | swap a b l =>
    simp only [List.map_cons, List.flatten_cons]
    rw [← List.append_assoc, ← List.append_assoc]
    exact List.perm_append_comm.append_right _
  | trans _ _ ih1 ih2 => exact ih1.trans ih2
theorem pairs_perm {x y : List Cls} (h : x.Perm y) : (pairsM x).Perm (pairsM y) := flat_perm h _
/-- As much of all is there in whatever order classes stand. -/
theorem names_perm {x y : List Cls} (h : x.Perm y) : (namesN x).mths.length = (namesN y).mths.length ∧ (namesN x).vars.length = (namesN y).vars.length ∧ (namesN x).sites.length = (namesN y).sites.length ∧
    (namesN x).calls.length = (namesN y).calls.length ∧ (namesN x).fields.length = (namesN y).fields.length ∧ (namesN x).names.length = (namesN y).names.length := by
  have hp := pairs_perm h
  rw [names_pairs, names_pairs]
  refine ⟨?_, ?_, ?_, ?_, ?_, ?_⟩
  · rw [pairs_mths, pairs_mths]; simpa [nms0] using hp.length_eq
  · rw [pairs_vars, pairs_vars]; simp only [nms0, List.nil_append]; exact (flat_perm hp _).length_eq
  · rw [pairs_sites, pairs_sites]; simp only [nms0, List.nil_append]; exact (flat_perm hp _).length_eq
  · rw [pairs_calls, pairs_calls]; simp only [nms0, List.nil_append]; exact (flat_perm hp _).length_eq
  · rw [pairs_fields, pairs_fields]; exact addsS_perm (flat_perm hp _)
  · rw [pairs_names, pairs_names]; exact addsS_perm (flat_perm hp _)
end Go.Proofs.Ytejlknplmfmceaa
set_option maxRecDepth 100000
namespace Go.Proofs.Ytejlknplmfmceaa
open Go.RowKit

/-- What is known of names while they are found. -/
structure OwnI (q : Nms) : Prop where
  lv : q.owner.length = q.vars.length
  lh : q.home.length = q.calls.length
  ov : ∀ (i k : Nat) (v : List UInt8), q.owner[i]? = some k → q.vars[i]? = some v → ∃ t w, q.mths[k]? = some t ∧ v = t ++ 46 :: w ∧ w ≠ []
  os : ∀ (i a b : Nat), q.owner[i]? = some a → q.owner[i + 1]? = some b → a ≤ b
  oc : ∀ (i k : Nat) (v : List UInt8), q.home[i]? = some k → q.calls[i]? = some v → q.mths[k]? = some v
  hs : ∀ (i a b : Nat), q.home[i]? = some a → q.home[i + 1]? = some b → a ≤ b
  ot : ∀ k, k ∈ q.owner → k < q.mths.length
  ht : ∀ k, k ∈ q.home → k < q.mths.length
  nv : ∀ (i : Nat) (u v : List UInt8), q.vars[i]? = some u → q.vars[i + 1]? = some v → u ≠ v
end Go.Proofs.Ytejlknplmfmceaa
set_option maxRecDepth 100000
namespace Go.Proofs.Ytejlknplmfmceaa
open Go.RowKit

end Go.Proofs.Ytejlknplmfmceaa
