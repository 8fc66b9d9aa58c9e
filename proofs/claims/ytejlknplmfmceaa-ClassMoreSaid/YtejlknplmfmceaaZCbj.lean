/- What is proved: Each class finds what its parent finds: plain facts. Conditions: a right source; What has which number in a source, in closed form: plain facts; Classes in another order: plain facts. Conditions: those that stand in the statements; Each variable's text begins with its method's: plain facts. Conditions: a right source; A class that is added: plain facts. Conditions: those that stand in the statements. Conditions: those that stand in the statements. -/
import Derived.Test.YtejlknplmfmceaaZCa
import Derived.Test.YtejlknplmfmceaaZFzj
set_option linter.unusedSimpArgs false
set_option linter.unusedVariables false
set_option maxRecDepth 100000
namespace Go.Proofs.Ytejlknplmfmceaa
open Go.RowKit

theorem ixT_at {l : List (List UInt8)} (hn : l.Nodup) {i : Nat} {k : List UInt8} (h : l[i]? = some k) : ixT k l = some i := by
  induction l generalizing i with
  | nil => simp at h
  | cons a r ih =>
    rw [List.nodup_cons] at hn
    cases i with
    | zero => simp at h; subst h; simp [ixT]
    | succ i =>
      have h' : r[i]? = some k := by simpa using h
      have hne : ¬ k = a := fun e => hn.1 (e ▸ List.mem_of_getElem? h')
      simp only [ixT]
      rw [if_neg hne, ih hn.2 h']
      rfl
theorem ixT_get {k : List UInt8} {l : List (List UInt8)} {i : Nat} (h : ixT k l = some i) : l[i]? = some k := ixT_lt h
theorem ixT_not {k : List UInt8} {l : List (List UInt8)} : ixT k l = none ↔ k ∉ l := ixT_none
/-- What is known of a right source. -/
structure Right (x : List Cls) : Prop where
  chk : checkB x = true
  nod : (x.map (·.nm)).Nodup
  up : ∀ c, c ∈ x → (upN x c.nm).2 = true
  mth : ∀ c, c ∈ x → ∀ (j : Nat) (m : Mth), c.mths[j]? = some m → hdOk x c j m = true ∧ bodyR x m = true
  main : mainR x = true
theorem right_of {x : List Cls} (h : rightE x = 0) : Right x := by
  unfold rightE at h
  split at h
  · cases h
  · rename_i h1
    split at h
    · cases h
    · rename_i h2
      split at h
      · cases h
      · rename_i h3
        split at h
        · cases h
        · rename_i h4
          split at h
          · cases h
          · rename_i h5
            refine ⟨by simpa using h1, by simpa using h2, ?_, ?_, by simpa using h5⟩
            · have h3' : (x.all fun c => (upN x c.nm).2) = true := by simpa using h3
              exact fun c hc => List.all_eq_true.1 h3' c hc
            · intro c hc j m hj
              have h4' : x.all (mthsR x) = true := by simpa using h4
              have := List.all_eq_true.1 h4' c hc
              unfold mthsR at this
              have hl := (List.getElem?_eq_some_iff.1 hj).1
              have h6 := List.all_eq_true.1 this j (List.mem_range.2 hl)
              rw [hj] at h6
              simpa using h6
theorem of_right {x : List Cls} (h : Right x) : rightE x = 0 := by
  unfold rightE
  rw [if_neg (by rw [h.chk]; simp), if_neg (by simpa using h.nod), if_neg, if_neg, if_neg (by rw [h.main]; simp)]
  · have : x.all (mthsR x) = true := by
      rw [List.all_eq_true]
      intro c hc
      unfold mthsR
      rw [List.all_eq_true]
      intro j hj
      cases hm : c.mths[j]? with
      | none => rfl
      | some m => have := h.mth c hc j m hm; simp [this.1, this.2]
    rw [this]; simp
  · have : (x.all fun c => (upN x c.nm).2) = true := List.all_eq_true.2 h.up
    rw [this]; simp
theorem ne_of_chk {x : List Cls} (h : checkB x = true) {c : Cls} (hc : c ∈ x) : c.nm ≠ [] := by
  unfold checkB at h
  simp only [Bool.and_eq_true, List.all_eq_true] at h
  have h1 := h.1.2 c hc
  intro e
  unfold headC at h1
  rw [e] at h1
  revert h1
  simp [isNameB, signB]
theorem at_of {x : List Cls} (h : Right x) {i : Nat} {c : Cls} (hi : x[i]? = some c) : atC x c.nm = some i := by
  unfold atC
  exact ixT_at h.nod (by rw [List.getElem?_map, hi]; rfl)
theorem chain_at {x : List Cls} (h : Right x) {i : Nat} {c : Cls} (hi : x[i]? = some c) (f : Nat) : chainN x (f + 1) c.nm = (i :: (chainN x f c.par).1, (chainN x f c.par).2) := by
  have hne := ne_of_chk h.chk (List.mem_of_getElem? hi)
  simp only [chainN]
  rw [if_neg hne, at_of h hi]
  simp only [hi, Option.map_some, Option.getD_some]
theorem start_le {x : List Cls} {i : Nat} {c : Cls} (hi : x[i]? = some c) : startN x (i + 1) = startN x i + c.mths.length := by
  unfold startN
  rw [utake hi, List.map_append, List.sum_append]
  simp
end Go.Proofs.Ytejlknplmfmceaa
set_option maxRecDepth 100000
namespace Go.Proofs.Ytejlknplmfmceaa
open Go.RowKit

def stK : Stm → Int | .mk k _ _ _ _ _ _ _ => k
def stNm : Stm → List UInt8 | .mk _ _ _ _ m _ _ _ => m
def sitesL (L : List Stm) : List (List UInt8) := (L.filter fun s => decide (stK s = 1)).map stNm
def callsN (L : List Stm) : Nat := (L.filter fun s => decide (stK s = 5) || decide (stK s = 6)).length
def fldL (L : List Stm) : List (List UInt8) := (L.filter fun s => decide (stK s = 3) || decide (stK s = 4)).map stNm
def namL (L : List Stm) : List (List UInt8) := (L.filter fun s => decide (stK s = 5)).map stNm
def txtL (L : List Stm) : List (List UInt8) := (L.map stTxt).flatten
theorem addsS_app {l a b : List (List UInt8)} : addsS l (a ++ b) = addsS (addsS l a) b := by unfold addsS; rw [List.foldl_append]
theorem addsS_nil {l : List (List UInt8)} : addsS l [] = l := rfl
theorem addsS_one {l : List (List UInt8)} {t : List UInt8} : addsS l [t] = addS l t := rfl
theorem sitesL_cons {s : Stm} {L : List Stm} : sitesL (s :: L) = (if stK s = 1 then [stNm s] else []) ++ sitesL L := by
  unfold sitesL; rw [List.filter_cons]; by_cases h : stK s = 1 <;> simp [h]
theorem callsN_cons {s : Stm} {L : List Stm} : callsN (s :: L) = callsN L + (if stK s = 5 ∨ stK s = 6 then 1 else 0) := by
  unfold callsN; rw [List.filter_cons]; by_cases h : stK s = 5 ∨ stK s = 6
  · rw [if_pos h, if_pos (by simpa using h)]; simp
  · rw [if_neg h, if_neg (by simpa using h)]; rfl
theorem fldL_cons {s : Stm} {L : List Stm} : fldL (s :: L) = (if stK s = 3 ∨ stK s = 4 then [stNm s] else []) ++ fldL L := by
  unfold fldL; rw [List.filter_cons]; by_cases h : stK s = 3 ∨ stK s = 4
  · rw [if_pos h, if_pos (by simpa using h)]; simp
  · rw [if_neg h, if_neg (by simpa using h)]; rfl
theorem namL_cons {s : Stm} {L : List Stm} : namL (s :: L) = (if stK s = 5 then [stNm s] else []) ++ namL L := by
  unfold namL; rw [List.filter_cons]; by_cases h : stK s = 5 <;> simp [h]
theorem txtL_cons {s : Stm} {L : List Stm} : txtL (s :: L) = stTxt s ++ txtL L := by simp [txtL]
theorem stmN_fold (txt : List UInt8) (n : Nat) : ∀ (L : List Stm) (q : Nms) (v : List (List UInt8)), L.foldl (stmN txt n) (q, v) =
    ({ q with sites := q.sites ++ sitesL L, calls := q.calls ++ List.replicate (callsN L) txt, home := q.home ++ List.replicate (callsN L) n, fields := addsS q.fields (fldL L), names := addsS q.names (namL L) }, addsS v (txtL L))
  | [], q, v => by simp [sitesL, callsN, fldL, namL, txtL, addsS]
  | .mk k d s c m ar o t :: L, q, v => by
    rw [List.foldl_cons, sitesL_cons, callsN_cons, fldL_cons, namL_cons, txtL_cons]
    simp only [addsS_app]
    have e1 : stK (.mk k d s c m ar o t) = k := rfl
    have e2 : stNm (.mk k d s c m ar o t) = m := rfl
    have e3 : stTxt (.mk k d s c m ar o t) = d :: s :: ar := rfl
    rw [e1, e2, e3]
    by_cases h1 : k = 1
    · subst h1
      simp only [stmN, if_true]
      rw [stmN_fold txt n L]
      simp [addsS_nil]
    · by_cases h5 : k = 5
      · subst h5
        simp only [stmN, if_true]
        rw [if_neg (by decide)]
        rw [stmN_fold txt n L]
        simp [addsS_nil, addsS_one, List.replicate_succ]
      · by_cases h6 : k = 6
        · subst h6
          simp only [stmN, if_true]
          rw [if_neg (by decide), if_neg (by decide)]
          rw [stmN_fold txt n L]
          simp [addsS_nil, List.replicate_succ]
        · by_cases h34 : k = 3 ∨ k = 4
          · simp only [stmN]
            rw [if_neg h1, if_neg h5, if_neg h6, if_pos h34]
            rw [stmN_fold txt n L]
            rw [if_neg h1, if_neg (by rintro (h | h); exact h5 h; exact h6 h), if_pos h34, if_neg h5, addsS_one]
            simp [addsS_nil]
          · simp only [stmN]
            rw [if_neg h1, if_neg h5, if_neg h6, if_neg h34]
            rw [stmN_fold txt n L]
            rw [if_neg h1, if_neg (by rintro (h | h); exact h5 h; exact h6 h), if_neg h34, if_neg h5]
            simp [addsS_nil]
def varsM (m : Mth) : List (List UInt8) := addsS (vars0 m) (txtL (preL m.body))
theorem mthN_eq (c : Cls) (q : Nms) (m : Mth) : mthN c q m =
    { mths := q.mths ++ [mthT c m], vars := q.vars ++ (varsM m).map (fun v => mthT c m ++ [46] ++ v), sites := q.sites ++ sitesL (preL m.body), calls := q.calls ++ List.replicate (callsN (preL m.body)) (mthT c m),
      owner := q.owner ++ (varsM m).map (fun _ => q.mths.length), home := q.home ++ List.replicate (callsN (preL m.body)) q.mths.length, main := if mthT c m = [77, 97, 105, 110, 58, 58, 109, 97, 105, 110] then q.mths.length else q.main,
      fields := addsS q.fields (fldL (preL m.body)), names := addsS q.names (namL (preL m.body)) } := by
  unfold mthN
  simp only
  rw [stmN_fold]
  rfl
def pairsM (x : List Cls) : List (Cls × Mth) := (x.map fun c => c.mths.map fun m => (c, m)).flatten
def nms0 : Nms := ⟨[], [], [], [], [], [], 0, [], []⟩
def pairQ (q : Nms) (p : Cls × Mth) : Nms := mthN p.1 q p.2
theorem clsN_pair (q : Nms) (c : Cls) : clsN q c = (c.mths.map fun m => (c, m)).foldl pairQ q := by
  unfold clsN
  generalize c.mths = ms
  induction ms generalizing q with
  | nil => rfl
  | cons m ms ih => rw [List.foldl_cons, List.map_cons, List.foldl_cons]; exact ih _
theorem names_pairs (x : List Cls) : namesN x = (pairsM x).foldl pairQ nms0 := by
  unfold namesN pairsM
  show x.foldl clsN nms0 = _
  generalize nms0 = q
  induction x generalizing q with
  | nil => rfl
  | cons c x ih =>
    rw [List.foldl_cons, List.map_cons, List.flatten_cons, List.foldl_append, ← clsN_pair]
    exact ih _
end Go.Proofs.Ytejlknplmfmceaa
set_option maxRecDepth 100000
namespace Go.Proofs.Ytejlknplmfmceaa
open Go.RowKit

theorem atC_get {x : List Cls} {n : List UInt8} {k : Nat} (h : atC x n = some k) : ∃ c, x[k]? = some c ∧ c.nm = n := by
  have := ixT_get h
  rw [List.getElem?_map] at this
  obtain ⟨c, h1, h2⟩ := Option.map_eq_some_iff.1 this
  exact ⟨c, h1, h2⟩
section
variable {x y : List Cls} (hp : x.Perm y) (hn : (x.map (·.nm)).Nodup)
include hp hn
end
section
variable {x y : List Cls} (hp : x.Perm y) (hn : (x.map (·.nm)).Nodup)
include hp hn
end
end Go.Proofs.Ytejlknplmfmceaa
set_option maxRecDepth 100000
namespace Go.Proofs.Ytejlknplmfmceaa
open Go.RowKit

theorem pairs_mem {x : List Cls} {p : Cls × Mth} (h : p ∈ pairsM x) : p.1 ∈ x ∧ p.2 ∈ p.1.mths := by
  unfold pairsM at h
  obtain ⟨l, hl, hp⟩ := List.mem_flatten.1 h
  obtain ⟨c, hc, rfl⟩ := List.mem_map.1 hl
  obtain ⟨m, hm, rfl⟩ := List.mem_map.1 hp
  exact ⟨hc, hm⟩
/-- What is known of names while they are found. -/
structure OwnI (q : Nms) : Prop where
  lv : q.owner.length = q.vars.length
  lh : q.home.length = q.calls.length
  ov : ∀ (i k : Nat) (v : List UInt8), q.owner[i]? = some k → q.vars[i]? = some v → ∃ t w, q.mths[k]? = some t ∧ v = t ++ 46 :: w ∧ w ≠ []
  os : ∀ (i a b : Nat), q.owner[i]? = some a → q.owner[i + 1]? = some b → a ≤ b
  oc : ∀ (i k : Nat) (v : List UInt8), q.home[i]? = some k → q.calls[i]? = some v → q.mths[k]? = some v
  hs : ∀ (i a b : Nat), q.home[i]? = some a → q.home[i + 1]? = some b → a ≤ b
  ot : ∀ k, k ∈ q.owner → k < q.mths.length
  ht : ∀ k, k ∈ q.home → k < q.mths.length
  nv : ∀ (i : Nat) (u v : List UInt8), q.vars[i]? = some u → q.vars[i + 1]? = some v → u ≠ v
end Go.Proofs.Ytejlknplmfmceaa
set_option maxRecDepth 100000
namespace Go.Proofs.Ytejlknplmfmceaa
open Go.RowKit

def zzM : Mth := ⟨true, [122, 122, 57], [], []⟩
def zzC : Cls := ⟨[90, 122, 57], [], [zzM]⟩
theorem at_more {x : List Cls} {n : List UInt8} (hn : n ≠ zzC.nm) : atC (x ++ [zzC]) n = atC x n := by
  unfold atC
  rw [List.map_append, ixT_app]
  cases ixT n (x.map (·.nm)) with
  | some k => rfl
  | none => simp only [List.map_cons, List.map_nil, ixT]; rw [if_neg hn]; rfl
theorem at_zz {x : List Cls} (hz : ∀ c, c ∈ x → c.nm ≠ zzC.nm ∧ c.par ≠ zzC.nm) : atC (x ++ [zzC]) zzC.nm = some x.length := by
  unfold atC
  rw [List.map_append, ixT_app]
  have : ixT zzC.nm (x.map (·.nm)) = none := by
    rw [ixT_not]
    intro hm
    obtain ⟨c, hc, e⟩ := List.mem_map.1 hm
    exact (hz c hc).1 e
  rw [this]
  simp only [List.map_cons, List.map_nil, ixT, if_true, Option.map_some, List.length_map, Nat.zero_add]
theorem get_more {x : List Cls} {k : Nat} {c : Cls} (hk : x[k]? = some c) : (x ++ [zzC])[k]? = some c := by
  rw [List.getElem?_append_left (List.getElem?_eq_some_iff.1 hk).1]; exact hk
theorem chain_more {x : List Cls} (hz : ∀ c, c ∈ x → c.nm ≠ zzC.nm ∧ c.par ≠ zzC.nm) : ∀ (f : Nat) (n : List UInt8), n ≠ zzC.nm → chainN (x ++ [zzC]) f n = chainN x f n
  | 0, _, _ => rfl
  | f + 1, n, hn => by
    simp only [chainN]
    rw [at_more hn]
    by_cases h0 : n = []
    · rw [if_pos h0, if_pos h0]
    · rw [if_neg h0, if_neg h0]
      cases ha : atC x n with
      | none => rfl
      | some k =>
        obtain ⟨c, hc, _⟩ := atC_get ha
        simp only [hc, get_more hc, Option.map_some, Option.getD_some]
        rw [chain_more hz f c.par (hz c (List.mem_of_getElem? hc)).2]
theorem start_more {x : List Cls} {k : Nat} (hk : k ≤ x.length) : startN (x ++ [zzC]) k = startN x k := by
  unfold startN
  rw [List.take_append_of_le_length hk]
theorem chain_fuel {x : List Cls} : ∀ (f : Nat) (n : List UInt8), (chainN x f n).2 = true → chainN x (f + 1) n = chainN x f n
  | 0, n, h => by cases h
  | f + 1, n, h => by
    simp only [chainN] at h
    rw [show chainN x (f + 1 + 1) n = _ from chainN.eq_2 x n (f + 1), show chainN x (f + 1) n = _ from chainN.eq_2 x n f]
    by_cases h0 : n = []
    · rw [if_pos h0, if_pos h0]
    · rw [if_neg h0] at h ⊢
      rw [if_neg h0]
      cases ha : atC x n with
      | none => rfl
      | some k =>
        rw [ha] at h
        simp only at h ⊢
        rw [chain_fuel f _ h]
theorem up_more {x : List Cls} (hz : ∀ c, c ∈ x → c.nm ≠ zzC.nm ∧ c.par ≠ zzC.nm) {n : List UInt8} (hn : n ≠ zzC.nm) (ht : (upN x n).2 = true) : upN (x ++ [zzC]) n = upN x n := by
  unfold upN at ht ⊢
  rw [chain_more hz _ _ hn, List.length_append, List.length_cons, List.length_nil]
  exact chain_fuel _ _ ht
theorem up_par {x : List Cls} (h : Right x) {c : Cls} (hc : c ∈ x) : (upN x c.par).2 = true := by
  have h1 := h.up c hc
  obtain ⟨i, hi⟩ := List.mem_iff_getElem?.1 hc
  unfold upN at h1 ⊢
  rw [chain_at h hi] at h1
  simp only at h1
  rw [chain_fuel _ _ h1]
  exact h1
theorem hit_more {x : List Cls} {n : List UInt8} {st : Bool} {k : Nat} (hk : k < x.length) : hitN (x ++ [zzC]) n st k = hitN x n st k := by
  have hg := get_more (List.getElem?_eq_getElem hk)
  unfold hitN
  rw [hg, List.getElem?_eq_getElem hk, start_more (Nat.le_of_lt hk)]
theorem first_more {x : List Cls} {n : List UInt8} {st : Bool} : ∀ (l : List Nat), (∀ k, k ∈ l → k < x.length) → firstN (x ++ [zzC]) n st l = firstN x n st l
  | [], _ => rfl
  | k :: l, hk => by
    simp only [firstN]
    rw [hit_more (hk k (by simp)), first_more l fun j hj => hk j (by simp [hj])]
theorem chain_lt {x : List Cls} : ∀ (f : Nat) (n : List UInt8) (k : Nat), k ∈ (chainN x f n).1 → k < x.length
  | 0, _, k, hk => by cases hk
  | f + 1, n, k, hk => by
    simp only [chainN] at hk
    split at hk
    · cases hk
    · split at hk
      · cases hk
      · rename_i j hj
        obtain ⟨c, hc, _⟩ := atC_get hj
        rcases List.mem_cons.1 hk with rfl | hk
        · exact (List.getElem?_eq_some_iff.1 hc).1
        · exact chain_lt f _ k hk
theorem look_more {x : List Cls} (hz : ∀ c, c ∈ x → c.nm ≠ zzC.nm ∧ c.par ≠ zzC.nm) {cls n : List UInt8} {st : Bool} (hn : cls ≠ zzC.nm) (ht : (upN x cls).2 = true) : lookN (x ++ [zzC]) cls n st = lookN x cls n st := by
  unfold lookN
  rw [up_more hz hn ht]
  exact first_more _ fun k hk => chain_lt _ _ k hk
theorem stm_more {x : List Cls} (h : Right x) (hz : ∀ c, c ∈ x → c.nm ≠ zzC.nm ∧ c.par ≠ zzC.nm) {st : Bool} {s : Stm} (hs : stmR x st s = true) : stmR (x ++ [zzC]) st s = true := by
  obtain ⟨k, d, s, c, n, ar, o, t⟩ := s
  simp only [stmR, Bool.and_eq_true] at hs ⊢
  refine ⟨hs.1, ?_⟩
  have h2 := hs.2
  by_cases h1 : k = 1
  · rw [if_pos h1] at h2 ⊢
    by_cases hn : n = zzC.nm
    · rw [hn, at_zz hz]; rfl
    · rw [at_more hn]; exact h2
  · rw [if_neg h1] at h2 ⊢
    by_cases h6 : k = 6
    · rw [if_pos h6] at h2 ⊢
      cases hL : lookN x c n true with
      | none => rw [hL] at h2; cases h2
      | some y =>
        rw [hL] at h2
        have hcn : (atC x c).isSome = true := by
          cases ha : atC x c with
          | some k => rfl
          | none =>
            exfalso
            unfold lookN upN at hL
            simp only [chainN, ha] at hL
            split at hL <;> cases hL
        cases ha : atC x c with
        | none => rw [ha] at hcn; cases hcn
        | some k =>
          obtain ⟨e, he, hec⟩ := atC_get ha
          have hem := List.mem_of_getElem? he
          rw [← hec] at hL ⊢
          rw [look_more hz (hz e hem).1 (h.up e hem), hL]
          exact h2
    · rw [if_neg h6] at h2 ⊢
      by_cases h5 : k = 5
      · rw [if_pos h5] at h2 ⊢
        unfold calledB at h2 ⊢
        rw [List.any_append, h2]; rfl
      · rw [if_neg h5]
/-- It leaves a right source right. -/
theorem right_more {x : List Cls} (h : Right x) (hl : x.length ≤ 31) (hz : ∀ c, c ∈ x → c.nm ≠ zzC.nm ∧ c.par ≠ zzC.nm) : Right (x ++ [zzC]) := by
  have hz0 : upN (x ++ [zzC]) zzC.nm = ([x.length], true) := by
    unfold upN
    have e1 : zzC.nm ≠ [] := by decide
    have e2 : (x ++ [zzC])[x.length]? = some zzC := by rw [List.getElem?_append_right (Nat.le_refl _)]; simp
    have e3 : ∀ f, chainN (x ++ [zzC]) (f + 1) [] = ([], true) := fun f => by simp [chainN]
    rw [List.length_append, List.length_cons, List.length_nil]
    rw [show x.length + (0 + 1) + 1 = (x.length + 1) + 1 from rfl, chainN.eq_2 _ _ (x.length + 1), if_neg e1, at_zz hz]
    simp only [e2, Option.map_some, Option.getD_some]
    rw [show zzC.par = [] from rfl, show x.length + (0 + 1) = x.length + 1 from rfl, e3]
  refine ⟨?_, ?_, ?_, ?_, ?_⟩
  · have hc := h.chk
    have haM : allM (x ++ [zzC]) = allM x ++ [zzM] := by rw [allM_app]; rfl
    unfold checkB at hc ⊢
    simp only [Bool.and_eq_true, decide_eq_true_eq] at hc ⊢
    obtain ⟨⟨h1, h2⟩, h3, h4⟩ := hc
    rw [haM, totM_app, List.all_append, List.all_append, h2, h3]
    have e1 : headC zzC = true := by decide +kernel
    refine ⟨⟨by simp only [List.length_append, List.length_cons, List.length_nil]; omega, by simp [e1]⟩, by simp [zzM, okA], ?_⟩
    have : totM [zzM] = 0 := rfl
    omega
  · rw [List.map_append, List.nodup_append]
    refine ⟨h.nod, by simp, ?_⟩
    intro a ha b hb e
    simp only [List.map_cons, List.map_nil, List.mem_singleton] at hb
    obtain ⟨c, hc, rfl⟩ := List.mem_map.1 ha
    exact (hz c hc).1 (e.trans hb)
  · intro c hc
    rcases List.mem_append.1 hc with hc | hc
    · rw [up_more hz (hz c hc).1 (h.up c hc)]; exact h.up c hc
    · rw [List.mem_singleton] at hc; subst hc; rw [hz0]
  · intro c hc j m hm
    rcases List.mem_append.1 hc with hc | hc
    · obtain ⟨h1, h2⟩ := h.mth c hc j m hm
      constructor
      · unfold hdOk at h1 ⊢
        rw [up_more hz (hz c hc).2 (up_par h hc)]
        simp only [Bool.and_eq_true] at h1 ⊢
        refine ⟨h1.1, h1.2.1, ?_⟩
        rw [List.all_eq_true] at *
        intro k hk
        have := h1.2.2 k hk
        have hlt := chain_lt _ _ k hk
        unfold fitB at this ⊢
        rw [get_more (List.getElem?_eq_getElem hlt)]
        rw [List.getElem?_eq_getElem hlt] at this
        exact this
      · unfold bodyR at h2 ⊢
        rw [List.all_eq_true] at h2 ⊢
        exact fun s hs => stm_more h hz (h2 s hs)
    · rw [List.mem_singleton] at hc
      subst hc
      have hj : j = 0 := by
        have := (List.getElem?_eq_some_iff.1 hm).1
        simp [zzC] at this; exact this
      subst hj
      have : m = zzM := by simpa [zzC] using hm.symm
      subst this
      constructor
      · unfold hdOk
        have e1 : ownI zzC zzM.nm = some 0 := by decide
        have e2 : upN (x ++ [zzC]) zzC.par = ([], true) := by unfold upN; simp [chainN, zzC]
        rw [e1, e2]
        rfl
      · rfl
  · have hm := h.main
    have hMn : ([77, 97, 105, 110] : List UInt8) ≠ zzC.nm := by decide
    unfold mainR at hm ⊢
    rw [at_more hMn]
    cases h1 : atC x [77, 97, 105, 110] with
    | none => rw [h1] at hm; cases hm
    | some k =>
      obtain ⟨c, hc, _⟩ := atC_get h1
      rw [h1] at hm
      simp only [hc] at hm
      simp only [get_more hc]
      exact hm
/-- All else keeps its number. -/
theorem names_more (x : List Cls) : namesN (x ++ [zzC]) = { namesN x with mths := (namesN x).mths ++ [[90, 122, 57, 58, 58, 122, 122, 57]], vars := (namesN x).vars ++ [[90, 122, 57, 58, 58, 122, 122, 57, 46, 114, 101, 116, 117, 114, 110]], owner := (namesN x).owner ++ [(namesN x).mths.length] } := by
  have e : namesN (x ++ [zzC]) = mthN zzC (namesN x) zzM := by
    unfold namesN
    rw [List.foldl_append]
    rfl
  rw [e, mthN_eq]
  have e1 : mthT zzC zzM = [90, 122, 57, 58, 58, 122, 122, 57] := by decide
  have e2 : varsM zzM = [retT] := by decide
  have e3 : preL zzM.body = [] := rfl
  rw [e1, e2, e3]
  simp [sitesL, callsN, fldL, namL, addsS, retT]
end Go.Proofs.Ytejlknplmfmceaa
