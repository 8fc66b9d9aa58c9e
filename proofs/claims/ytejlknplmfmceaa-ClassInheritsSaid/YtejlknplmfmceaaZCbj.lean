/- What is proved: Each class finds what its parent finds: plain facts. Conditions: a right source; What has which number in a source, in closed form: plain facts; Classes in another order: plain facts. Conditions: those that stand in the statements; Each variable's text begins with its method's: plain facts. Conditions: a right source; A class that is added: plain facts. Conditions: those that stand in the statements. Conditions: those that stand in the statements. -/
import Derived.Test.YtejlknplmfmceaaZCa
import Derived.Test.YtejlknplmfmceaaZFzj
set_option linter.unusedSimpArgs false
set_option linter.unusedVariables false
set_option maxRecDepth 100000
namespace Go.Proofs.Ytejlknplmfmceaa
open Go.RowKit

theorem ixT_at {l : List (List UInt8)} (hn : l.Nodup) {i : Nat} {k : List UInt8} (h : l[i]? = some k) : ixT k l = some i := by
  induction l generalizing i with
  | nil => simp at h
  | cons a r ih =>
    rw [List.nodup_cons] at hn
    cases i with
    | zero => simp at h; subst h; simp [ixT]
    | succ i =>
      have h' : r[i]? = some k := by simpa using h
      have hne : ¬ k = a := fun e => hn.1 (e ▸ List.mem_of_getElem? h')
      simp only [ixT]
      rw [if_neg hne, ih hn.2 h']
      rfl
theorem ixT_get {k : List UInt8} {l : List (List UInt8)} {i : Nat} (h : ixT k l = some i) : l[i]? = some k := ixT_lt h
theorem ixT_not {k : List UInt8} {l : List (List UInt8)} : ixT k l = none ↔ k ∉ l := ixT_none
/-- What is known of a right source. -/
structure Right (x : List Cls) : Prop where
  chk : checkB x = true
  nod : (x.map (·.nm)).Nodup
  up : ∀ c, c ∈ x → (upN x c.nm).2 = true
  mth : ∀ c, c ∈ x → ∀ (j : Nat) (m : Mth), c.mths[j]? = some m → hdOk x c j m = true ∧ bodyR x m = true
  main : mainR x = true
theorem right_of {x : List Cls} (h : rightE x = 0) : Right x := by
  unfold rightE at h
  split at h
  · cases h
  · rename_i h1
    split at h
    · cases h
    · rename_i h2
      split at h
      · cases h
      · rename_i h3
        split at h
        · cases h
        · rename_i h4
          split at h
          · cases h
          · rename_i h5
            refine ⟨by simpa using h1, by simpa using h2, ?_, ?_, by simpa using h5⟩
            · have h3' : (x.all fun c => (upN x c.nm).2) = true := by simpa using h3
              exact fun c hc => List.all_eq_true.1 h3' c hc
            · intro c hc j m hj
              have h4' : x.all (mthsR x) = true := by simpa using h4
              have := List.all_eq_true.1 h4' c hc
              unfold mthsR at this
              have hl := (List.getElem?_eq_some_iff.1 hj).1
              have h6 := List.all_eq_true.1 this j (List.mem_range.2 hl)
              rw [hj] at h6
              simpa using h6
theorem ne_of_chk {x : List Cls} (h : checkB x = true) {c : Cls} (hc : c ∈ x) : c.nm ≠ [] := by
  unfold checkB at h
  simp only [Bool.and_eq_true, List.all_eq_true] at h
  have h1 := h.1.2 c hc
  intro e
  unfold headC at h1
  rw [e] at h1
  revert h1
  simp [isNameB, signB]
theorem at_of {x : List Cls} (h : Right x) {i : Nat} {c : Cls} (hi : x[i]? = some c) : atC x c.nm = some i := by
  unfold atC
  exact ixT_at h.nod (by rw [List.getElem?_map, hi]; rfl)
theorem chain_at {x : List Cls} (h : Right x) {i : Nat} {c : Cls} (hi : x[i]? = some c) (f : Nat) : chainN x (f + 1) c.nm = (i :: (chainN x f c.par).1, (chainN x f c.par).2) := by
  have hne := ne_of_chk h.chk (List.mem_of_getElem? hi)
  simp only [chainN]
  rw [if_neg hne, at_of h hi]
  simp only [hi, Option.map_some, Option.getD_some]
theorem hit_own {x : List Cls} (h : Right x) {i j : Nat} {c : Cls} {m : Mth} (hi : x[i]? = some c) (hj : c.mths[j]? = some m) : hitN x m.nm m.stat i = some (startN x i + j, m) := by
  have hh := (h.mth c (List.mem_of_getElem? hi) j m hj).1
  unfold hdOk at hh
  simp only [Bool.and_eq_true, decide_eq_true_eq] at hh
  unfold hitN
  simp only [hi, hh.1, hj, if_true]
/-- A class finds its own methods. -/
theorem look_own {x : List Cls} (h : Right x) {i j : Nat} {c : Cls} {m : Mth} (hi : x[i]? = some c) (hj : c.mths[j]? = some m) : lookN x c.nm m.nm m.stat = some (startN x i + j, m) := by
  unfold lookN upN
  rw [chain_at h hi]
  simp only [firstN]
  rw [hit_own h hi hj]
theorem chain_self {x : List Cls} (h : Right x) {i : Nat} {c : Cls} (hi : x[i]? = some c) (hp : c.par = c.nm) : ∀ f, (chainN x f c.nm).2 = false
  | 0 => rfl
  | f + 1 => by
    rw [chain_at h hi, hp]
    exact chain_self h hi hp f
theorem start_le {x : List Cls} {i : Nat} {c : Cls} (hi : x[i]? = some c) : startN x (i + 1) = startN x i + c.mths.length := by
  unfold startN
  rw [utake hi, List.map_append, List.sum_append]
  simp
theorem start_mono {x : List Cls} {i k : Nat} (h : i ≤ k) : startN x i ≤ startN x k := by
  induction k with
  | zero => have : i = 0 := by omega
            subst this; exact Nat.le_refl _
  | succ k ih =>
    by_cases e : i = k + 1
    · subst e; exact Nat.le_refl _
    · have h1 := ih (by omega)
      have h2 : startN x k ≤ startN x (k + 1) := by
        cases hk : x[k]? with
        | some c => rw [start_le hk]; omega
        | none =>
          unfold startN
          rw [List.take_of_length_le (by rw [List.getElem?_eq_none_iff] at hk; omega), List.take_of_length_le (by rw [List.getElem?_eq_none_iff] at hk; omega)]
          exact Nat.le_refl _
      omega
theorem num_ne {x : List Cls} {i k a b : Nat} {c d : Cls} (hi : x[i]? = some c) (hk : x[k]? = some d) (ha : a < c.mths.length) (hb : b < d.mths.length) (hne : i ≠ k) : startN x i + a ≠ startN x k + b := by
  have h1 := start_le hi
  have h2 := start_le hk
  rcases Nat.lt_or_gt_of_ne hne with h | h
  · have := start_mono (x := x) (show i + 1 ≤ k by omega); omega
  · have := start_mono (x := x) (show k + 1 ≤ i by omega); omega
/-- A class finds what its parent finds, if it has no method of that name itself, and another one otherwise. -/
theorem look_par {x : List Cls} (h : Right x) {i j k : Nat} {c d : Cls} {m : Mth} (hi : x[i]? = some c) (hj : c.mths[j]? = some m) (hk : x[k]? = some d) (hp : d.par = c.nm) :
    ∃ r, lookN x d.nm m.nm m.stat = some r ∧ ((d.mths.any fun q => decide (q.nm = m.nm)) = false → r.1 = startN x i + j) ∧ ((d.mths.any fun q => decide (q.nm = m.nm)) = true → r.1 ≠ startN x i + j) := by
  have hxl : 0 < x.length := by have := (List.getElem?_eq_some_iff.1 hi).1; omega
  obtain ⟨f, hf⟩ : ∃ f, x.length = f + 1 := ⟨x.length - 1, by omega⟩
  have hch : upN x d.nm = (k :: i :: (chainN x f c.par).1, (chainN x f c.par).2) := by
    unfold upN
    rw [chain_at h hk, hp, hf, chain_at h hi]
  have hik : i ≠ k := by
    intro e
    subst e
    rw [hi] at hk
    injection hk with hk
    subst hk
    have h1 := h.up c (List.mem_of_getElem? hi)
    unfold upN at h1
    rw [chain_self h hi hp] at h1
    cases h1
  unfold lookN
  rw [hch]
  simp only [firstN]
  cases ho : ownI d m.nm with
  | none =>
    have hh : hitN x m.nm m.stat k = none := by unfold hitN; simp only [hk, ho]
    rw [hh, hit_own h hi hj]
    refine ⟨_, rfl, fun _ => rfl, fun hany => ?_⟩
    exfalso
    rw [List.any_eq_true] at hany
    obtain ⟨q, hq, e⟩ := hany
    unfold ownI at ho
    exact ixT_not.1 ho (List.mem_map.2 ⟨q, hq, by simpa using e⟩)
  | some b =>
    have hb := ixT_get (show ixT m.nm (d.mths.map (·.nm)) = some b from ho)
    rw [List.getElem?_map] at hb
    obtain ⟨m', hm', he⟩ := Option.map_eq_some_iff.1 hb
    have hh := (h.mth d (List.mem_of_getElem? hk) b m' hm').1
    unfold hdOk at hh
    simp only [Bool.and_eq_true, decide_eq_true_eq, List.all_eq_true] at hh
    have hfit := hh.2.2 i (by
      unfold upN
      rw [hp, chain_at h hi]
      simp)
    have hcm : ownM c m'.nm = some m := by
      have h2 := (h.mth c (List.mem_of_getElem? hi) j m hj).1
      unfold hdOk at h2
      simp only [Bool.and_eq_true, decide_eq_true_eq] at h2
      unfold ownM
      rw [he, h2.1]
      simpa using hj
    unfold fitB at hfit
    simp only [hi, hcm, Bool.and_eq_true, beq_iff_eq] at hfit
    have hhit : hitN x m.nm m.stat k = some (startN x k + b, m') := by
      unfold hitN
      simp only [hk, ho, hm']
      rw [if_pos hfit.1.symm]
    rw [hhit]
    refine ⟨_, rfl, fun hany => ?_, fun _ => ?_⟩
    · exfalso
      have : (d.mths.any fun q => decide (q.nm = m.nm)) = true := by
        rw [List.any_eq_true]
        exact ⟨m', List.mem_of_getElem? hm', by simpa using he⟩
      rw [this] at hany
      cases hany
    · have := num_ne hi hk (List.getElem?_eq_some_iff.1 hj).1 (List.getElem?_eq_some_iff.1 hm').1 hik
      intro e
      exact this e.symm
end Go.Proofs.Ytejlknplmfmceaa
set_option maxRecDepth 100000
namespace Go.Proofs.Ytejlknplmfmceaa
open Go.RowKit

def stK : Stm → Int | .mk k _ _ _ _ _ _ _ => k
def stNm : Stm → List UInt8 | .mk _ _ _ _ m _ _ _ => m
def sitesL (L : List Stm) : List (List UInt8) := (L.filter fun s => decide (stK s = 1)).map stNm
def callsN (L : List Stm) : Nat := (L.filter fun s => decide (stK s = 5) || decide (stK s = 6)).length
def fldL (L : List Stm) : List (List UInt8) := (L.filter fun s => decide (stK s = 3) || decide (stK s = 4)).map stNm
def namL (L : List Stm) : List (List UInt8) := (L.filter fun s => decide (stK s = 5)).map stNm
def txtL (L : List Stm) : List (List UInt8) := (L.map stTxt).flatten
theorem addsS_app {l a b : List (List UInt8)} : addsS l (a ++ b) = addsS (addsS l a) b := by unfold addsS; rw [List.foldl_append]
theorem addsS_nil {l : List (List UInt8)} : addsS l [] = l := rfl
theorem addsS_one {l : List (List UInt8)} {t : List UInt8} : addsS l [t] = addS l t := rfl
theorem sitesL_cons {s : Stm} {L : List Stm} : sitesL (s :: L) = (if stK s = 1 then [stNm s] else []) ++ sitesL L := by
  unfold sitesL; rw [List.filter_cons]; by_cases h : stK s = 1 <;> simp [h]
theorem callsN_cons {s : Stm} {L : List Stm} : callsN (s :: L) = callsN L + (if stK s = 5 ∨ stK s = 6 then 1 else 0) := by
  unfold callsN; rw [List.filter_cons]; by_cases h : stK s = 5 ∨ stK s = 6
  · rw [if_pos h, if_pos (by simpa using h)]; simp
  · rw [if_neg h, if_neg (by simpa using h)]; rfl
theorem fldL_cons {s : Stm} {L : List Stm} : fldL (s :: L) = (if stK s = 3 ∨ stK s = 4 then [stNm s] else []) ++ fldL L := by
  unfold fldL; rw [List.filter_cons]; by_cases h : stK s = 3 ∨ stK s = 4
  · rw [if_pos h, if_pos (by simpa using h)]; simp
  · rw [if_neg h, if_neg (by simpa using h)]; rfl
theorem namL_cons {s : Stm} {L : List Stm} : namL (s :: L) = (if stK s = 5 then [stNm s] else []) ++ namL L := by
  unfold namL; rw [List.filter_cons]; by_cases h : stK s = 5 <;> simp [h]
theorem txtL_cons {s : Stm} {L : List Stm} : txtL (s :: L) = stTxt s ++ txtL L := by simp [txtL]
theorem stmN_fold (txt : List UInt8) (n : Nat) : ∀ (L : List Stm) (q : Nms) (v : List (List UInt8)), L.foldl (stmN txt n) (q, v) =
    ({ q with sites := q.sites ++ sitesL L, calls := q.calls ++ List.replicate (callsN L) txt, home := q.home ++ List.replicate (callsN L) n, fields := addsS q.fields (fldL L), names := addsS q.names (namL L) }, addsS v (txtL L))
  | [], q, v => by simp [sitesL, callsN, fldL, namL, txtL, addsS]
  | .mk k d s c m ar o t :: L, q, v => by
    rw [List.foldl_cons, sitesL_cons, callsN_cons, fldL_cons, namL_cons, txtL_cons]
    simp only [addsS_app]
    have e1 : stK (.mk k d s c m ar o t) = k := rfl
    have e2 : stNm (.mk k d s c m ar o t) = m := rfl
    have e3 : stTxt (.mk k d s c m ar o t) = d :: s :: ar := rfl
    rw [e1, e2, e3]
    by_cases h1 : k = 1
    · subst h1
      simp only [stmN, if_true]
      rw [stmN_fold txt n L]
      simp [addsS_nil]
    · by_cases h5 : k = 5
      · subst h5
        simp only [stmN, if_true]
        rw [if_neg (by decide)]
        rw [stmN_fold txt n L]
        simp [addsS_nil, addsS_one, List.replicate_succ]
      · by_cases h6 : k = 6
        · subst h6
          simp only [stmN, if_true]
          rw [if_neg (by decide), if_neg (by decide)]
          rw [stmN_fold txt n L]
          simp [addsS_nil, List.replicate_succ]
        · by_cases h34 : k = 3 ∨ k = 4
          · simp only [stmN]
            rw [if_neg h1, if_neg h5, if_neg h6, if_pos h34]
            rw [stmN_fold txt n L]
            rw [if_neg h1, if_neg (by rintro (h | h); exact h5 h; exact h6 h), if_pos h34, if_neg h5, addsS_one]
            simp [addsS_nil]
          · simp only [stmN]
            rw [if_neg h1, if_neg h5, if_neg h6, if_neg h34]
            rw [stmN_fold txt n L]
            rw [if_neg h1, if_neg (by rintro (h | h); exact h5 h; exact h6 h), if_neg h34, if_neg h5]
            simp [addsS_nil]
def varsM (m : Mth) : List (List UInt8) := addsS (vars0 m) (txtL (preL m.body))
theorem mthN_eq (c : Cls) (q : Nms) (m : Mth) : mthN c q m =
    { mths := q.mths ++ [mthT c m], vars := q.vars ++ (varsM m).map (fun v => mthT c m ++ [46] ++ v), sites := q.sites ++ sitesL (preL m.body), calls := q.calls ++ List.replicate (callsN (preL m.body)) (mthT c m),
      owner := q.owner ++ (varsM m).map (fun _ => q.mths.length), home := q.home ++ List.replicate (callsN (preL m.body)) q.mths.length, main := if mthT c m = [77, 97, 105, 110, 58, 58, 109, 97, 105, 110] then q.mths.length else q.main,
      fields := addsS q.fields (fldL (preL m.body)), names := addsS q.names (namL (preL m.body)) } := by
  unfold mthN
  simp only
  rw [stmN_fold]
  rfl
def pairsM (x : List Cls) : List (Cls × Mth) := (x.map fun c => c.mths.map fun m => (c, m)).flatten
def nms0 : Nms := ⟨[], [], [], [], [], [], 0, [], []⟩
def pairQ (q : Nms) (p : Cls × Mth) : Nms := mthN p.1 q p.2
theorem clsN_pair (q : Nms) (c : Cls) : clsN q c = (c.mths.map fun m => (c, m)).foldl pairQ q := by
  unfold clsN
  generalize c.mths = ms
  induction ms generalizing q with
  | nil => rfl
  | cons m ms ih => rw [List.foldl_cons, List.map_cons, List.foldl_cons]; exact ih _
theorem names_pairs (x : List Cls) : namesN x = (pairsM x).foldl pairQ nms0 := by
  unfold namesN pairsM
  show x.foldl clsN nms0 = _
  generalize nms0 = q
  induction x generalizing q with
  | nil => rfl
  | cons c x ih =>
    rw [List.foldl_cons, List.map_cons, List.flatten_cons, List.foldl_append, ← clsN_pair]
    exact ih _
theorem pairs_mths (ps : List (Cls × Mth)) (q : Nms) : (ps.foldl pairQ q).mths = q.mths ++ ps.map fun p => mthT p.1 p.2 := by
  induction ps generalizing q with
  | nil => simp
  | cons p ps ih => rw [List.foldl_cons, ih, pairQ, mthN_eq]; simp
end Go.Proofs.Ytejlknplmfmceaa
set_option maxRecDepth 100000
namespace Go.Proofs.Ytejlknplmfmceaa
open Go.RowKit

theorem atC_get {x : List Cls} {n : List UInt8} {k : Nat} (h : atC x n = some k) : ∃ c, x[k]? = some c ∧ c.nm = n := by
  have := ixT_get h
  rw [List.getElem?_map] at this
  obtain ⟨c, h1, h2⟩ := Option.map_eq_some_iff.1 this
  exact ⟨c, h1, h2⟩
section
variable {x y : List Cls} (hp : x.Perm y) (hn : (x.map (·.nm)).Nodup)
include hp hn
end
section
variable {x y : List Cls} (hp : x.Perm y) (hn : (x.map (·.nm)).Nodup)
include hp hn
end
end Go.Proofs.Ytejlknplmfmceaa
set_option maxRecDepth 100000
namespace Go.Proofs.Ytejlknplmfmceaa
open Go.RowKit

/-- What is known of names while they are found. -/
structure OwnI (q : Nms) : Prop where
  lv : q.owner.length = q.vars.length
  lh : q.home.length = q.calls.length
  ov : ∀ (i k : Nat) (v : List UInt8), q.owner[i]? = some k → q.vars[i]? = some v → ∃ t w, q.mths[k]? = some t ∧ v = t ++ 46 :: w ∧ w ≠ []
  os : ∀ (i a b : Nat), q.owner[i]? = some a → q.owner[i + 1]? = some b → a ≤ b
  oc : ∀ (i k : Nat) (v : List UInt8), q.home[i]? = some k → q.calls[i]? = some v → q.mths[k]? = some v
  hs : ∀ (i a b : Nat), q.home[i]? = some a → q.home[i + 1]? = some b → a ≤ b
  ot : ∀ k, k ∈ q.owner → k < q.mths.length
  ht : ∀ k, k ∈ q.home → k < q.mths.length
  nv : ∀ (i : Nat) (u v : List UInt8), q.vars[i]? = some u → q.vars[i + 1]? = some v → u ≠ v
end Go.Proofs.Ytejlknplmfmceaa
set_option maxRecDepth 100000
namespace Go.Proofs.Ytejlknplmfmceaa
open Go.RowKit

end Go.Proofs.Ytejlknplmfmceaa
