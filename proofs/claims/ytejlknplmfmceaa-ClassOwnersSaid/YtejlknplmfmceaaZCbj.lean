/- What is proved: Each class finds what its parent finds: plain facts. Conditions: a right source; What has which number in a source, in closed form: plain facts; Classes in another order: plain facts. Conditions: those that stand in the statements; Each variable's text begins with its method's: plain facts. Conditions: a right source; A class that is added: plain facts. Conditions: those that stand in the statements. Conditions: those that stand in the statements. -/
import Derived.Test.YtejlknplmfmceaaZCa
import Derived.Test.YtejlknplmfmceaaZFzj
set_option linter.unusedSimpArgs false
set_option linter.unusedVariables false
set_option maxRecDepth 100000
namespace Go.Proofs.Ytejlknplmfmceaa
open Go.RowKit

theorem ixT_get {k : List UInt8} {l : List (List UInt8)} {i : Nat} (h : ixT k l = some i) : l[i]? = some k := ixT_lt h
/-- What is known of a right source. -/
structure Right (x : List Cls) : Prop where
  chk : checkB x = true
  nod : (x.map (·.nm)).Nodup
  up : ∀ c, c ∈ x → (upN x c.nm).2 = true
  mth : ∀ c, c ∈ x → ∀ (j : Nat) (m : Mth), c.mths[j]? = some m → hdOk x c j m = true ∧ bodyR x m = true
  main : mainR x = true
theorem right_of {x : List Cls} (h : rightE x = 0) : Right x := by
  unfold rightE at h
  split at h
  · cases h
  · rename_i h1
    split at h
    · cases h
    · rename_i h2
      split at h
      · cases h
      · rename_i h3
        split at h
        · cases h
        · rename_i h4
          split at h
          · cases h
          · rename_i h5
            refine ⟨by simpa using h1, by simpa using h2, ?_, ?_, by simpa using h5⟩
            · have h3' : (x.all fun c => (upN x c.nm).2) = true := by simpa using h3
              exact fun c hc => List.all_eq_true.1 h3' c hc
            · intro c hc j m hj
              have h4' : x.all (mthsR x) = true := by simpa using h4
              have := List.all_eq_true.1 h4' c hc
              unfold mthsR at this
              have hl := (List.getElem?_eq_some_iff.1 hj).1
              have h6 := List.all_eq_true.1 this j (List.mem_range.2 hl)
              rw [hj] at h6
              simpa using h6
theorem start_le {x : List Cls} {i : Nat} {c : Cls} (hi : x[i]? = some c) : startN x (i + 1) = startN x i + c.mths.length := by
  unfold startN
  rw [utake hi, List.map_append, List.sum_append]
  simp
end Go.Proofs.Ytejlknplmfmceaa
set_option maxRecDepth 100000
namespace Go.Proofs.Ytejlknplmfmceaa
open Go.RowKit

def stK : Stm → Int | .mk k _ _ _ _ _ _ _ => k
def stNm : Stm → List UInt8 | .mk _ _ _ _ m _ _ _ => m
def sitesL (L : List Stm) : List (List UInt8) := (L.filter fun s => decide (stK s = 1)).map stNm
def callsN (L : List Stm) : Nat := (L.filter fun s => decide (stK s = 5) || decide (stK s = 6)).length
def fldL (L : List Stm) : List (List UInt8) := (L.filter fun s => decide (stK s = 3) || decide (stK s = 4)).map stNm
def namL (L : List Stm) : List (List UInt8) := (L.filter fun s => decide (stK s = 5)).map stNm
def txtL (L : List Stm) : List (List UInt8) := (L.map stTxt).flatten
theorem addsS_app {l a b : List (List UInt8)} : addsS l (a ++ b) = addsS (addsS l a) b := by unfold addsS; rw [List.foldl_append]
theorem addsS_nil {l : List (List UInt8)} : addsS l [] = l := rfl
theorem addsS_one {l : List (List UInt8)} {t : List UInt8} : addsS l [t] = addS l t := rfl
theorem sitesL_cons {s : Stm} {L : List Stm} : sitesL (s :: L) = (if stK s = 1 then [stNm s] else []) ++ sitesL L := by
  unfold sitesL; rw [List.filter_cons]; by_cases h : stK s = 1 <;> simp [h]
theorem callsN_cons {s : Stm} {L : List Stm} : callsN (s :: L) = callsN L + (if stK s = 5 ∨ stK s = 6 then 1 else 0) := by
  unfold callsN; rw [List.filter_cons]; by_cases h : stK s = 5 ∨ stK s = 6
  · rw [if_pos h, if_pos (by simpa using h)]; simp
  · rw [if_neg h, if_neg (by simpa using h)]; rfl
theorem fldL_cons {s : Stm} {L : List Stm} : fldL (s :: L) = (if stK s = 3 ∨ stK s = 4 then [stNm s] else []) ++ fldL L := by
  unfold fldL; rw [List.filter_cons]; by_cases h : stK s = 3 ∨ stK s = 4
  · rw [if_pos h, if_pos (by simpa using h)]; simp
  · rw [if_neg h, if_neg (by simpa using h)]; rfl
theorem namL_cons {s : Stm} {L : List Stm} : namL (s :: L) = (if stK s = 5 then [stNm s] else []) ++ namL L := by
  unfold namL; rw [List.filter_cons]; by_cases h : stK s = 5 <;> simp [h]
theorem txtL_cons {s : Stm} {L : List Stm} : txtL (s :: L) = stTxt s ++ txtL L := by simp [txtL]
theorem stmN_fold (txt : List UInt8) (n : Nat) : ∀ (L : List Stm) (q : Nms) (v : List (List UInt8)), L.foldl (stmN txt n) (q, v) =
    ({ q with sites := q.sites ++ sitesL L, calls := q.calls ++ List.replicate (callsN L) txt, home := q.home ++ List.replicate (callsN L) n, fields := addsS q.fields (fldL L), names := addsS q.names (namL L) }, addsS v (txtL L))
  | [], q, v => by simp [sitesL, callsN, fldL, namL, txtL, addsS]
  | .mk k d s c m ar o t :: L, q, v => by
    rw [List.foldl_cons, sitesL_cons, callsN_cons, fldL_cons, namL_cons, txtL_cons]
    simp only [addsS_app]
    have e1 : stK (.mk k d s c m ar o t) = k := rfl
    have e2 : stNm (.mk k d s c m ar o t) = m := rfl
    have e3 : stTxt (.mk k d s c m ar o t) = d :: s :: ar := rfl
    rw [e1, e2, e3]
    by_cases h1 : k = 1
    · subst h1
      simp only [stmN, if_true]
      rw [stmN_fold txt n L]
      simp [addsS_nil]
    · by_cases h5 : k = 5
      · subst h5
        simp only [stmN, if_true]
        rw [if_neg (by decide)]
        rw [stmN_fold txt n L]
        simp [addsS_nil, addsS_one, List.replicate_succ]
      · by_cases h6 : k = 6
        · subst h6
          simp only [stmN, if_true]
          rw [if_neg (by decide), if_neg (by decide)]
          rw [stmN_fold txt n L]
          simp [addsS_nil, List.replicate_succ]
        · by_cases h34 : k = 3 ∨ k = 4
          · simp only [stmN]
            rw [if_neg h1, if_neg h5, if_neg h6, if_pos h34]
            rw [stmN_fold txt n L]
            rw [if_neg h1, if_neg (by rintro (h | h); exact h5 h; exact h6 h), if_pos h34, if_neg h5, addsS_one]
            simp [addsS_nil]
          · simp only [stmN]
            rw [if_neg h1, if_neg h5, if_neg h6, if_neg h34]
            rw [stmN_fold txt n L]
            rw [if_neg h1, if_neg (by rintro (h | h); exact h5 h; exact h6 h), if_neg h34, if_neg h5]
            simp [addsS_nil]
def varsM (m : Mth) : List (List UInt8) := addsS (vars0 m) (txtL (preL m.body))
theorem mthN_eq (c : Cls) (q : Nms) (m : Mth) : mthN c q m =
    { mths := q.mths ++ [mthT c m], vars := q.vars ++ (varsM m).map (fun v => mthT c m ++ [46] ++ v), sites := q.sites ++ sitesL (preL m.body), calls := q.calls ++ List.replicate (callsN (preL m.body)) (mthT c m),
      owner := q.owner ++ (varsM m).map (fun _ => q.mths.length), home := q.home ++ List.replicate (callsN (preL m.body)) q.mths.length, main := if mthT c m = [77, 97, 105, 110, 58, 58, 109, 97, 105, 110] then q.mths.length else q.main,
      fields := addsS q.fields (fldL (preL m.body)), names := addsS q.names (namL (preL m.body)) } := by
  unfold mthN
  simp only
  rw [stmN_fold]
  rfl
def pairsM (x : List Cls) : List (Cls × Mth) := (x.map fun c => c.mths.map fun m => (c, m)).flatten
def nms0 : Nms := ⟨[], [], [], [], [], [], 0, [], []⟩
def pairQ (q : Nms) (p : Cls × Mth) : Nms := mthN p.1 q p.2
theorem clsN_pair (q : Nms) (c : Cls) : clsN q c = (c.mths.map fun m => (c, m)).foldl pairQ q := by
  unfold clsN
  generalize c.mths = ms
  induction ms generalizing q with
  | nil => rfl
  | cons m ms ih => rw [List.foldl_cons, List.map_cons, List.foldl_cons]; exact ih _
theorem names_pairs (x : List Cls) : namesN x = (pairsM x).foldl pairQ nms0 := by
  unfold namesN pairsM
  show x.foldl clsN nms0 = _
  generalize nms0 = q
  induction x generalizing q with
  | nil => rfl
  | cons c x ih =>
    rw [List.foldl_cons, List.map_cons, List.flatten_cons, List.foldl_append, ← clsN_pair]
    exact ih _
theorem pairs_mths (ps : List (Cls × Mth)) (q : Nms) : (ps.foldl pairQ q).mths = q.mths ++ ps.map fun p => mthT p.1 p.2 := by
  induction ps generalizing q with
  | nil => simp
  | cons p ps ih => rw [List.foldl_cons, ih, pairQ, mthN_eq]; simp
/-- Texts put in one by one stand there once each. -/
theorem addS_nodup {l : List (List UInt8)} {t : List UInt8} (h : l.Nodup) : (addS l t).Nodup := by
  unfold addS
  split
  · exact h
  · rename_i hn
    rw [not_or] at hn
    rw [List.nodup_append]
    exact ⟨h, by simp, fun a ha b hb e => by rw [List.mem_singleton] at hb; subst hb; subst e; exact hn.2 ha⟩
theorem addsS_nodup : ∀ (ts : List (List UInt8)) {l : List (List UInt8)}, l.Nodup → (addsS l ts).Nodup
  | [], l, h => h
  | t :: ts, l, h => addsS_nodup ts (addS_nodup h)
theorem addS_mem {l : List (List UInt8)} {t u : List UInt8} : u ∈ addS l t ↔ u ∈ l ∨ (u = t ∧ t ≠ []) := by
  unfold addS
  split
  · rename_i h
    constructor
    · exact fun h => .inl h
    · rintro (h1 | ⟨rfl, h1⟩)
      · exact h1
      · rcases h with h | h
        · exact absurd h h1
        · exact h
  · rename_i h
    rw [not_or] at h
    rw [List.mem_append, List.mem_singleton]
    constructor
    · rintro (h1 | h1)
      · exact .inl h1
      · exact .inr ⟨h1, h.1⟩
    · rintro (h1 | h1)
      · exact .inl h1
      · exact .inr h1.1
theorem addsS_mem {u : List UInt8} : ∀ (ts : List (List UInt8)) {l : List (List UInt8)}, u ∈ addsS l ts ↔ u ∈ l ∨ (u ∈ ts ∧ u ≠ [])
  | [], l => by simp [addsS]
  | t :: ts, l => by
    show u ∈ addsS (addS l t) ts ↔ _
    rw [addsS_mem ts, addS_mem, List.mem_cons]
    constructor
    · rintro ((h | ⟨rfl, h⟩) | ⟨h1, h2⟩)
      · exact .inl h
      · exact .inr ⟨.inl rfl, h⟩
      · exact .inr ⟨.inr h1, h2⟩
    · rintro (h | ⟨rfl | h1, h2⟩)
      · exact .inl (.inl h)
      · exact .inl (.inr ⟨rfl, h2⟩)
      · exact .inr ⟨h1, h2⟩
end Go.Proofs.Ytejlknplmfmceaa
set_option maxRecDepth 100000
namespace Go.Proofs.Ytejlknplmfmceaa
open Go.RowKit

theorem atC_get {x : List Cls} {n : List UInt8} {k : Nat} (h : atC x n = some k) : ∃ c, x[k]? = some c ∧ c.nm = n := by
  have := ixT_get h
  rw [List.getElem?_map] at this
  obtain ⟨c, h1, h2⟩ := Option.map_eq_some_iff.1 this
  exact ⟨c, h1, h2⟩
section
variable {x y : List Cls} (hp : x.Perm y) (hn : (x.map (·.nm)).Nodup)
include hp hn
end
section
variable {x y : List Cls} (hp : x.Perm y) (hn : (x.map (·.nm)).Nodup)
include hp hn
end
end Go.Proofs.Ytejlknplmfmceaa
set_option maxRecDepth 100000
namespace Go.Proofs.Ytejlknplmfmceaa
open Go.RowKit

theorem takeWhile_all {α : Type} {p : α → Bool} : ∀ {l : List α}, (l.takeWhile p).length = l.length → ∀ a, a ∈ l → p a = true
  | [], _, a, h => by cases h
  | b :: l, h, a, ha => by
    rw [List.takeWhile_cons] at h
    cases hb : p b with
    | false => rw [hb] at h; simp at h
    | true =>
      rw [hb] at h
      simp only [if_true, List.length_cons] at h
      rcases List.mem_cons.1 ha with rfl | ha
      · exact hb
      · exact takeWhile_all (by omega) a ha
/-- A name has neither a dot nor a colon. -/
theorem name_part {t : List UInt8} (h : signB ⟨1, t, 0⟩ = true) : ∀ c, c ∈ t → partB c = true := by
  simp only [signB, Bool.and_eq_true, decide_eq_true_eq] at h
  obtain ⟨h1, h2⟩ := h
  cases t with
  | nil => exact absurd rfl h1
  | cons c l =>
    simp only [oneK] at h2
    split at h2
    · split at h2
      · injection h2 with h3 h4; cases h3
      · injection h2 with h3 h4; cases h3
    · split at h2
      · split at h2
        · injection h2 with h3 h4; cases h3
        · injection h2 with h3 h4
          exact takeWhile_all h4
      · injection h2 with h3 h4; cases h3
theorem dot_part : partB 46 = false := by decide
theorem col_part : partB 58 = false := by decide
theorem nm_dot {t : List UInt8} (h : isNameB t = true) : 46 ∉ t ∧ 58 ∉ t := by
  unfold isNameB at h
  rw [Bool.and_eq_true] at h
  have := name_part h.1
  refine ⟨fun hm => ?_, fun hm => ?_⟩
  · have h2 := this _ hm; rw [dot_part] at h2; cases h2
  · have h2 := this _ hm; rw [col_part] at h2; cases h2
/-- Where texts without a byte are followed by it they are the same. -/
theorem txt_split {α : Type} {c : α} : ∀ {a b s t : List α}, c ∉ a → c ∉ b → a ++ c :: s = b ++ c :: t → a = b ∧ s = t
  | [], [], s, t, _, _, h => by simp at h; exact ⟨rfl, h⟩
  | [], y :: b, s, t, _, hb, h => by
    simp only [List.nil_append, List.cons_append, List.cons.injEq] at h
    exact absurd (h.1 ▸ List.mem_cons_self) hb
  | x :: a, [], s, t, ha, _, h => by
    simp only [List.nil_append, List.cons_append, List.cons.injEq] at h
    exact absurd (h.1 ▸ List.mem_cons_self) ha
  | x :: a, y :: b, s, t, ha, hb, h => by
    simp only [List.cons_append, List.cons.injEq] at h
    obtain ⟨h1, h2⟩ := h
    obtain ⟨h3, h4⟩ := txt_split (fun hm => ha (List.mem_cons_of_mem _ hm)) (fun hm => hb (List.mem_cons_of_mem _ hm)) h2
    exact ⟨by rw [h1, h3], h4⟩
theorem mth_names {x : List Cls} (h : checkB x = true) {c : Cls} (hc : c ∈ x) : isNameB c.nm = true ∧ ∀ m, m ∈ c.mths → isNameB m.nm = true := by
  unfold checkB at h
  simp only [Bool.and_eq_true, List.all_eq_true] at h
  have h1 := h.1.2 c hc
  unfold headC at h1
  simp only [Bool.and_eq_true, List.all_eq_true] at h1
  refine ⟨h1.1.1.1, fun m hm => ?_⟩
  have := h1.2 m hm
  unfold headM at this
  rw [Bool.and_eq_true] at this
  exact this.1
theorem mthT_inj {c d : Cls} {m p : Mth} (hc : isNameB c.nm = true) (hd : isNameB d.nm = true) (h : mthT c m = mthT d p) : c.nm = d.nm ∧ m.nm = p.nm := by
  unfold mthT at h
  have h' : c.nm ++ 58 :: (58 :: m.nm) = d.nm ++ 58 :: (58 :: p.nm) := by simpa using h
  obtain ⟨h1, h2⟩ := txt_split (nm_dot hc).2 (nm_dot hd).2 h'
  exact ⟨h1, by simpa using h2⟩
theorem mthT_dot {c : Cls} {m : Mth} (hc : isNameB c.nm = true) (hm : isNameB m.nm = true) : 46 ∉ mthT c m := by
  unfold mthT
  rw [List.mem_append, List.mem_append]
  rintro ((h | h) | h)
  · exact (nm_dot hc).1 h
  · revert h; decide
  · exact (nm_dot hm).1 h
theorem pairs_mem {x : List Cls} {p : Cls × Mth} (h : p ∈ pairsM x) : p.1 ∈ x ∧ p.2 ∈ p.1.mths := by
  unfold pairsM at h
  obtain ⟨l, hl, hp⟩ := List.mem_flatten.1 h
  obtain ⟨c, hc, rfl⟩ := List.mem_map.1 hl
  obtain ⟨m, hm, rfl⟩ := List.mem_map.1 hp
  exact ⟨hc, hm⟩
theorem own_nodup {x : List Cls} (h : Right x) {c : Cls} (hc : c ∈ x) : (c.mths.map (·.nm)).Nodup := by
  unfold List.Nodup
  rw [List.pairwise_iff_getElem]
  intro i j hi hj hij e
  rw [List.length_map] at hi hj
  rw [List.getElem_map, List.getElem_map] at e
  have h1 := (h.mth c hc i _ (List.getElem?_eq_getElem hi)).1
  have h2 := (h.mth c hc j _ (List.getElem?_eq_getElem hj)).1
  unfold hdOk at h1 h2
  simp only [Bool.and_eq_true, decide_eq_true_eq] at h1 h2
  have h3 := h1.1
  rw [e, h2.1] at h3
  injection h3 with h3
  omega
theorem mths_nodup {x : List Cls} (h : Right x) : ((pairsM x).map fun p => mthT p.1 p.2).Nodup := by
  unfold pairsM
  rw [List.map_flatten, List.map_map]
  unfold List.Nodup
  rw [List.pairwise_flatten]
  constructor
  · intro l hl
    obtain ⟨c, hc, rfl⟩ := List.mem_map.1 hl
    simp only [Function.comp, List.map_map]
    rw [List.pairwise_map]
    have hn := own_nodup h hc
    unfold List.Nodup at hn
    rw [List.pairwise_map] at hn
    refine hn.imp_of_mem fun {a b} ha hb hab e => hab ?_
    exact (mthT_inj (mth_names h.chk hc).1 (mth_names h.chk hc).1 e).2
  · rw [List.pairwise_map]
    have hn := h.nod
    unfold List.Nodup at hn
    rw [List.pairwise_map] at hn
    refine hn.imp_of_mem fun {c d} hc hd hcd => ?_
    intro t ht u hu e
    simp only [Function.comp, List.map_map, List.mem_map] at ht hu
    obtain ⟨m, hm, rfl⟩ := ht
    obtain ⟨p, hp, rfl⟩ := hu
    exact hcd (mthT_inj (mth_names h.chk hc).1 (mth_names h.chk hd).1 e).1
/-- What is known of names while they are found. -/
structure OwnI (q : Nms) : Prop where
  lv : q.owner.length = q.vars.length
  lh : q.home.length = q.calls.length
  ov : ∀ (i k : Nat) (v : List UInt8), q.owner[i]? = some k → q.vars[i]? = some v → ∃ t w, q.mths[k]? = some t ∧ v = t ++ 46 :: w ∧ w ≠ []
  os : ∀ (i a b : Nat), q.owner[i]? = some a → q.owner[i + 1]? = some b → a ≤ b
  oc : ∀ (i k : Nat) (v : List UInt8), q.home[i]? = some k → q.calls[i]? = some v → q.mths[k]? = some v
  hs : ∀ (i a b : Nat), q.home[i]? = some a → q.home[i + 1]? = some b → a ≤ b
  ot : ∀ k, k ∈ q.owner → k < q.mths.length
  ht : ∀ k, k ∈ q.home → k < q.mths.length
  nv : ∀ (i : Nat) (u v : List UInt8), q.vars[i]? = some u → q.vars[i + 1]? = some v → u ≠ v
theorem own0 : OwnI nms0 := by
  constructor <;> simp [nms0]
theorem app_cases {α : Type} {A B : List α} {i : Nat} {a : α} (h : (A ++ B)[i]? = some a) : (i < A.length ∧ A[i]? = some a) ∨ (A.length ≤ i ∧ B[i - A.length]? = some a) := by
  by_cases hi : i < A.length
  · exact .inl ⟨hi, by rw [List.getElem?_append_left hi] at h; exact h⟩
  · exact .inr ⟨by omega, by rw [List.getElem?_append_right (by omega)] at h; exact h⟩
theorem mem_const {α β : Type} {B : List α} {k : β} {i : Nat} {a : β} (h : (B.map fun _ => k)[i]? = some a) : a = k := by
  rw [List.getElem?_map] at h
  obtain ⟨_, _, e⟩ := Option.map_eq_some_iff.1 h
  exact e.symm
theorem mem_rep {β : Type} {n : Nat} {k : β} {i : Nat} {a : β} (h : (List.replicate n k)[i]? = some a) : a = k := by
  rw [List.getElem?_replicate] at h
  split at h
  · injection h with h; exact h.symm
  · cases h
theorem vars_nodup (m : Mth) : (varsM m).Nodup ∧ ∀ v, v ∈ varsM m → v ≠ [] := by
  unfold varsM vars0
  have h0 : (if m.stat = true then ([] : List (List UInt8)) else addsS [] [selfT]).Nodup := by split; simp; exact addsS_nodup _ (by simp)
  have h1 : ∀ v, v ∈ (if m.stat = true then ([] : List (List UInt8)) else addsS [] [selfT]) → v ≠ [] := by
    split
    · intro v hv; cases hv
    · intro v hv
      rw [addsS_mem] at hv
      rcases hv with hv | hv
      · cases hv
      · exact hv.2
  refine ⟨addsS_nodup _ (addsS_nodup _ (addsS_nodup _ h0)), fun v hv => ?_⟩
  rw [addsS_mem, addsS_mem, addsS_mem] at hv
  rcases hv with ((hv | hv) | hv) | hv
  · exact h1 v hv
  · exact hv.2
  · exact hv.2
  · exact hv.2
theorem own_step {q : Nms} {p : Cls × Mth} (h : OwnI q) (hd : ∀ t, t ∈ q.mths → 46 ∉ t) (hT : 46 ∉ mthT p.1 p.2) (hn : mthT p.1 p.2 ∉ q.mths) : OwnI (pairQ q p) := by
  obtain ⟨hvn, hve⟩ := vars_nodup p.2
  unfold pairQ
  rw [mthN_eq]
  generalize mthT p.1 p.2 = T at *
  generalize varsM p.2 = V at *
  have hlt : ∀ {i k : Nat} {t : List UInt8}, q.mths[k]? = some t → (q.mths ++ [T])[k]? = some t := by
    intro i k t ht
    rw [List.getElem?_append_left (List.getElem?_eq_some_iff.1 ht).1]; exact ht
  have hlast : (q.mths ++ [T])[q.mths.length]? = some T := by rw [List.getElem?_append_right (Nat.le_refl _)]; simp
  constructor
  · simp [h.lv]
  · simp [h.lh]
  · intro i k v hk hv
    simp only at hk hv
    rcases app_cases hk with ⟨h1, h2⟩ | ⟨h1, h2⟩
    · rcases app_cases hv with ⟨g1, g2⟩ | ⟨g1, g2⟩
      · obtain ⟨t, w, e1, e2, e3⟩ := h.ov i k v h2 g2
        exact ⟨t, w, hlt (i := 0) e1, e2, e3⟩
      · have := h.lv; omega
    · rcases app_cases hv with ⟨g1, g2⟩ | ⟨g1, g2⟩
      · have := h.lv; omega
      · have hkk := mem_const h2
        subst hkk
        rw [List.getElem?_map] at g2
        obtain ⟨w, hw, e⟩ := Option.map_eq_some_iff.1 g2
        exact ⟨T, w, hlast, by rw [← e]; simp, hve w (List.mem_of_getElem? hw)⟩
  · intro i a b ha hb
    simp only at ha hb
    rcases app_cases ha with ⟨h1, h2⟩ | ⟨h1, h2⟩
    · rcases app_cases hb with ⟨g1, g2⟩ | ⟨g1, g2⟩
      · exact h.os i a b h2 g2
      · have := mem_const g2
        have := h.ot a (List.mem_of_getElem? h2)
        omega
    · rcases app_cases hb with ⟨g1, g2⟩ | ⟨g1, g2⟩
      · omega
      · have := mem_const g2
        have := mem_const h2
        omega
  · intro i k v hk hv
    simp only at hk hv
    rcases app_cases hk with ⟨h1, h2⟩ | ⟨h1, h2⟩
    · rcases app_cases hv with ⟨g1, g2⟩ | ⟨g1, g2⟩
      · exact hlt (i := 0) (h.oc i k v h2 g2)
      · have := h.lh; omega
    · rcases app_cases hv with ⟨g1, g2⟩ | ⟨g1, g2⟩
      · have := h.lh; omega
      · have e1 := mem_rep h2
        have e2 := mem_rep g2
        subst e1; subst e2
        exact hlast
  · intro i a b ha hb
    simp only at ha hb
    rcases app_cases ha with ⟨h1, h2⟩ | ⟨h1, h2⟩
    · rcases app_cases hb with ⟨g1, g2⟩ | ⟨g1, g2⟩
      · exact h.hs i a b h2 g2
      · have := mem_rep g2
        have := h.ht a (List.mem_of_getElem? h2)
        omega
    · rcases app_cases hb with ⟨g1, g2⟩ | ⟨g1, g2⟩
      · omega
      · have := mem_rep g2
        have := mem_rep h2
        omega
  · intro k hk
    simp only [List.mem_append, List.length_append, List.length_cons, List.length_nil] at hk ⊢
    rcases hk with hk | hk
    · have := h.ot k hk; omega
    · obtain ⟨_, _, e⟩ := List.mem_map.1 hk; omega
  · intro k hk
    simp only [List.mem_append, List.length_append, List.length_cons, List.length_nil] at hk ⊢
    rcases hk with hk | hk
    · have := h.ht k hk; omega
    · have := List.eq_of_mem_replicate hk; omega
  · intro i u v hu hv e
    simp only at hu hv
    rcases app_cases hu with ⟨h1, h2⟩ | ⟨h1, h2⟩
    · rcases app_cases hv with ⟨g1, g2⟩ | ⟨g1, g2⟩
      · exact h.nv i u v h2 g2 e
      · have hi2 : i < q.owner.length := by rw [h.lv]; exact h1
        obtain ⟨t, w, e1, e2, _⟩ := h.ov i _ u (List.getElem?_eq_getElem hi2) h2
        rw [List.getElem?_map] at g2
        obtain ⟨w2, _, e3⟩ := Option.map_eq_some_iff.1 g2
        have ht := List.mem_of_getElem? e1
        rw [e, ← e3] at e2
        have e4 : T ++ 46 :: w2 = t ++ 46 :: w := by rw [← e2]; simp
        have := (txt_split hT (hd t ht) e4).1
        exact hn (this ▸ ht)
    · rcases app_cases hv with ⟨g1, g2⟩ | ⟨g1, g2⟩
      · omega
      · rw [List.getElem?_map] at h2 g2
        obtain ⟨w1, hw1, e1⟩ := Option.map_eq_some_iff.1 h2
        obtain ⟨w2, hw2, e2⟩ := Option.map_eq_some_iff.1 g2
        rw [← e1, ← e2] at e
        have e3 : w1 = w2 := by simpa using e
        subst e3
        have hl := (List.getElem?_eq_some_iff.1 hw1).1
        have := (List.getElem?_inj hl hvn).1 (hw1.trans hw2.symm)
        omega
theorem own_pairs : ∀ (ps : List (Cls × Mth)) (q : Nms), OwnI q → (∀ t, t ∈ q.mths → 46 ∉ t) → (∀ p, p ∈ ps → 46 ∉ mthT p.1 p.2) → (q.mths ++ ps.map fun p => mthT p.1 p.2).Nodup → OwnI (ps.foldl pairQ q)
  | [], q, h, _, _, _ => h
  | p :: ps, q, h, hd, hp, hn => by
    rw [List.foldl_cons]
    have e : (pairQ q p).mths = q.mths ++ [mthT p.1 p.2] := by unfold pairQ; rw [mthN_eq]
    refine own_pairs ps _ (own_step h hd (hp p (by simp)) ?_) ?_ (fun r hr => hp r (by simp [hr])) ?_
    · intro hm
      rw [List.nodup_append] at hn
      exact hn.2.2 _ hm _ (by simp) rfl
    · rw [e]
      intro t ht
      rcases List.mem_append.1 ht with ht | ht
      · exact hd t ht
      · rw [List.mem_singleton] at ht; subst ht; exact hp p (by simp)
    · rw [e]; simpa using hn
theorem own_names {x : List Cls} (h : Right x) : OwnI (namesN x) := by
  rw [names_pairs]
  refine own_pairs _ _ own0 (by simp [nms0]) (fun p hp => ?_) (by simpa [nms0] using mths_nodup h)
  obtain ⟨h1, h2⟩ := pairs_mem hp
  have := mth_names h.chk h1
  exact mthT_dot this.1 (this.2 _ h2)
end Go.Proofs.Ytejlknplmfmceaa
set_option maxRecDepth 100000
namespace Go.Proofs.Ytejlknplmfmceaa
open Go.RowKit

def mmT : List UInt8 := [77, 97, 105, 110, 58, 58, 109, 97, 105, 110]
theorem main_fold : ∀ (ps : List (Cls × Mth)) (q : Nms), (q.mths[q.main]? = some mmT ∨ ∃ p, p ∈ ps ∧ mthT p.1 p.2 = mmT) → (ps.foldl pairQ q).mths[(ps.foldl pairQ q).main]? = some mmT
  | [], q, h => by
    rcases h with h | ⟨p, hp, _⟩
    · exact h
    · cases hp
  | p :: ps, q, h => by
    rw [List.foldl_cons]
    apply main_fold ps
    have e : (pairQ q p).mths = q.mths ++ [mthT p.1 p.2] := by unfold pairQ; rw [mthN_eq]
    have e2 : (pairQ q p).main = if mthT p.1 p.2 = mmT then q.mths.length else q.main := by unfold pairQ; rw [mthN_eq]; rfl
    by_cases ht : mthT p.1 p.2 = mmT
    · left
      rw [e, e2, if_pos ht, List.getElem?_append_right (Nat.le_refl _), ht]
      simp
    · rcases h with h | ⟨r, hr, hrt⟩
      · left
        rw [e, e2, if_neg ht, List.getElem?_append_left (List.getElem?_eq_some_iff.1 h).1]
        exact h
      · right
        rcases List.mem_cons.1 hr with rfl | hr
        · exact absurd hrt ht
        · exact ⟨r, hr, hrt⟩
theorem main_names {x : List Cls} (h : Right x) : (namesN x).mths[(namesN x).main]? = some mmT := by
  rw [names_pairs]
  apply main_fold
  right
  have hm := h.main
  unfold mainR at hm
  cases h1 : atC x [77, 97, 105, 110] with
  | none => rw [h1] at hm; cases hm
  | some k =>
    obtain ⟨c, hc, e⟩ := atC_get h1
    rw [h1] at hm
    simp only [hc] at hm
    cases h2 : ownM c [109, 97, 105, 110] with
    | none => rw [h2] at hm; cases hm
    | some m =>
      unfold ownM at h2
      cases h3 : ownI c [109, 97, 105, 110] with
      | none => rw [h3] at h2; cases h2
      | some j =>
        rw [h3] at h2
        simp only [Option.bind_some] at h2
        have h4 := ixT_get (show ixT [109, 97, 105, 110] (c.mths.map (·.nm)) = some j from h3)
        rw [List.getElem?_map, h2] at h4
        simp only [Option.map_some, Option.some.injEq] at h4
        refine ⟨(c, m), ?_, ?_⟩
        · unfold pairsM
          exact List.mem_flatten.2 ⟨_, List.mem_map.2 ⟨c, List.mem_of_getElem? hc, rfl⟩, List.mem_map.2 ⟨m, List.mem_of_getElem? h2, rfl⟩⟩
        · unfold mthT
          rw [e, h4]
          decide
end Go.Proofs.Ytejlknplmfmceaa
