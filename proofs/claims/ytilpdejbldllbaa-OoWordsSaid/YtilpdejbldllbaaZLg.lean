/- What is proved: The law OoWords, walked. Conditions: a text of at most 2^47 bytes. Conditions: those that stand in the statements. -/
import Derived.Test.YtilpdejbldllbaaZTo
import Derived.Test.YtilpdejbldllbaaZBit
import Derived.Test.YtilpdejbldllbaaZMa
import Derived.Test.YtilpdejbldllbaaZAw
set_option linter.unusedSimpArgs false
set_option linter.unusedVariables false
set_option maxRecDepth 100000
namespace Go.Proofs.Ytilpdejbldllbaa
open Go.RowKit

def litW : List (List VV) := [[.str [99, 108, 97, 115, 115]], [.str [101, 120, 116, 101, 110, 100, 115]], [.str [115, 116, 97, 116, 105, 99]], [.str [110, 101, 119]], [.str [114, 101, 116, 117, 114, 110]], [.str [105, 102]], [.str [101, 108, 115, 101]], [.str [108, 111, 111, 112]]]
def litP : List (List VV) := [[.str [99, 108, 97, 115, 115, 32, 64, 32, 123, 32, 125]], [.str [99, 108, 97, 115, 115, 32, 65, 32, 101, 120, 116, 101, 110, 100, 115, 32, 64, 32, 123, 32, 125]], [.str [99, 108, 97, 115, 115, 32, 65, 32, 123, 32, 64, 40, 41, 32, 123, 32, 125, 32, 125]], [.str [99, 108, 97, 115, 115, 32, 65, 32, 123, 32, 109, 40, 64, 41, 32, 123, 32, 125, 32, 125]], [.str [99, 108, 97, 115, 115, 32, 65, 32, 123, 32, 109, 40, 41, 32, 123, 32, 64, 32, 61, 32, 120, 59, 32, 125, 32, 125]], [.str [99, 108, 97, 115, 115, 32, 65, 32, 123, 32, 109, 40, 41, 32, 123, 32, 120, 32, 61, 32, 64, 59, 32, 125, 32, 125]], [.str [99, 108, 97, 115, 115, 32, 65, 32, 123, 32, 109, 40, 41, 32, 123, 32, 120, 46, 64, 32, 61, 32, 121, 59, 32, 125, 32, 125]], [.str [99, 108, 97, 115, 115, 32, 65, 32, 123, 32, 109, 40, 41, 32, 123, 32, 114, 101, 116, 117, 114, 110, 32, 64, 59, 32, 125, 32, 125]], [.str [99, 108, 97, 115, 115, 32, 65, 32, 123, 32, 109, 40, 41, 32, 123, 32, 120, 46, 109, 40, 64, 41, 59, 32, 125, 32, 125]], [.str [99, 108, 97, 115, 115, 32, 65, 32, 123, 32, 109, 40, 41, 32, 123, 32, 64, 58, 58, 109, 40, 41, 59, 32, 125, 32, 125]]]
theorem litW_at (w : Nat) (hw : w < 8) : litW[w]? = some [.str (wWord w)] ∧ (wWord w).length ≤ 100 := by
  match w, hw with
  | 0, _ => exact ⟨rfl, by decide⟩
  | 1, _ => exact ⟨rfl, by decide⟩
  | 2, _ => exact ⟨rfl, by decide⟩
  | 3, _ => exact ⟨rfl, by decide⟩
  | 4, _ => exact ⟨rfl, by decide⟩
  | 5, _ => exact ⟨rfl, by decide⟩
  | 6, _ => exact ⟨rfl, by decide⟩
  | 7, _ => exact ⟨rfl, by decide⟩
  | w + 8, h => omega
theorem litP_at (p : Nat) (hp : p < 10) : litP[p]? = some [.str (wPre p ++ 64 :: wPost p)] ∧ (∀ c, c ∈ wPre p → ¬ c = 64) ∧ (∀ c, c ∈ wPost p → ¬ c = 64) ∧ (wPre p).length ≤ 100 ∧ (wPost p).length ≤ 100 := by
  match p, hp with
  | 0, _ => exact ⟨rfl, by decide, by decide, by decide, by decide⟩
  | 1, _ => exact ⟨rfl, by decide, by decide, by decide, by decide⟩
  | 2, _ => exact ⟨rfl, by decide, by decide, by decide, by decide⟩
  | 3, _ => exact ⟨rfl, by decide, by decide, by decide, by decide⟩
  | 4, _ => exact ⟨rfl, by decide, by decide, by decide, by decide⟩
  | 5, _ => exact ⟨rfl, by decide, by decide, by decide, by decide⟩
  | 6, _ => exact ⟨rfl, by decide, by decide, by decide, by decide⟩
  | 7, _ => exact ⟨rfl, by decide, by decide, by decide, by decide⟩
  | 8, _ => exact ⟨rfl, by decide, by decide, by decide, by decide⟩
  | 9, _ => exact ⟨rfl, by decide, by decide, by decide, by decide⟩
  | p + 10, h => omega
theorem mid_at {pre post : List UInt8} {i : Nat} (h1 : ∀ c, c ∈ pre → ¬ c = 64) (h2 : ∀ c, c ∈ post → ¬ c = 64) (hi : i < (pre ++ 64 :: post).length) : ∃ c, (pre ++ 64 :: post)[i]? = some c ∧ ((c.toNat : Int) = 64 ↔ i = pre.length) := by
  have e : ∀ c : UInt8, (c.toNat : Int) = 64 ↔ c = 64 := fun c => by
    constructor
    · intro h; apply UInt8.toNat_inj.1; show c.toNat = 64; omega
    · rintro rfl; rfl
  rcases Nat.lt_trichotomy i pre.length with h | h | h
  · refine ⟨pre[i], by rw [List.getElem?_append_left h, List.getElem?_eq_getElem h], ?_⟩
    rw [e]
    exact ⟨fun hc => absurd hc (h1 _ (List.getElem_mem h)), fun hi => by omega⟩
  · subst h
    exact ⟨64, by simp, by simp⟩
  · obtain ⟨j, rfl⟩ : ∃ j, i = pre.length + (j + 1) := ⟨i - pre.length - 1, by omega⟩
    have hj : j < post.length := by rw [List.length_append, List.length_cons] at hi; omega
    refine ⟨post[j], by rw [List.getElem?_append_right (by omega), Nat.add_sub_cancel_left, List.getElem?_cons_succ, List.getElem?_eq_getElem hj], ?_⟩
    rw [e]
    exact ⟨fun hc => absurd hc (h2 _ (List.getElem_mem hj)), fun hi => by omega⟩
theorem mid_cut {pre post x : List UInt8} : (pre ++ 64 :: post).take pre.length ++ x ++ (pre ++ 64 :: post).drop (pre.length + 1) = pre ++ x ++ post := by
  rw [List.take_left' rfl, ← List.drop_drop, List.drop_left' rfl]
  rfl
set_option maxHeartbeats 4000000 in
theorem OoWords_S (a b : Int) (o : List UInt8) (hl : o.length ≤ 140737488355328) (s : St) : SRet Try.prog 9 [.int .i64 a, .int .i64 b, .str o] s (.bool true) s := by
  obtain ⟨p, hp⟩ : ∃ p : Nat, (p : Int) = (b % 256).tmod 10 := ⟨((b % 256).tmod 10).toNat, by
    rw [Int.tmod_eq_emod_of_nonneg (by omega)]; omega⟩
  obtain ⟨w, hw⟩ : ∃ w : Nat, (w : Int) = a % 8 := ⟨(a % 8).toNat, by omega⟩
  have hp10 : p < 10 := by rw [Int.tmod_eq_emod_of_nonneg (by omega)] at hp; omega
  have hw8 : w < 8 := by omega
  have f1 : bAnd .i64 a 7 = (w : Int) := by
    have h := bAnd_low a 3 (by omega)
    simp only [show (2 : Int) ^ 3 = 8 by rfl, show (8 : Int) - 1 = 7 by rfl] at h
    rw [h, hw]
  have f2 : bAnd .i64 b 255 = b % 256 := by
    have h := bAnd_low b 8 (by omega)
    simpa only [show (2 : Int) ^ 8 = 256 by rfl, show (256 : Int) - 1 = 255 by rfl] using h
  have f3 : (b % 256).tmod 10 = (p : Int) := hp.symm
  clear hp hw
  obtain ⟨l1, l2⟩ := litW_at w hw8
  obtain ⟨l3, n1, n2, n3, n4⟩ := litP_at p hp10
  obtain ⟨i1, hb, hi1⟩ := word_bad p w hp10 hw8
  have hlA : (wPre p ++ wWord w ++ wPost p).length ≤ 9223372036854775000 := by simp only [List.length_append]; omega
  have hlB : (wPre p ++ o ++ wPost p).length ≤ 9223372036854775000 := by simp only [List.length_append]; omega
  have p1 := fun s => Parse_S (wPre p ++ wWord w ++ wPost p) hlA s
  have p2 := fun s => Parse_S (wPre p ++ o ++ wPost p) hlB s
  have p3 := fun s => Nm_S o s
  rw [hb] at p1
  simp only [parseV, srcV, List.map_nil] at p1
  have hgood := fun ho => name_good o ho p hp10
  generalize wPre p = pre at *
  generalize wPost p = post at *
  generalize wWord w = wd at *
  generalize hcl : [clsC (wSrc o p)] = cl
  have hcl1 : cl.length = 1 := by rw [← hcl]; rfl
  have hmid := fun i => mid_at (i := i) n1 n2
  have hcutA : (pre ++ 64 :: post).take pre.length ++ wd ++ (pre ++ 64 :: post).drop (pre.length + 1) = pre ++ wd ++ post := mid_cut
  have hcutB : (pre ++ 64 :: post).take pre.length ++ o ++ (pre ++ 64 :: post).drop (pre.length + 1) = pre ++ o ++ post := mid_cut
  have hPl : (pre ++ 64 :: post).length ≤ 201 := by rw [List.length_append, List.length_cons]; omega
  have hq : pre.length < (pre ++ 64 :: post).length := by rw [List.length_append, List.length_cons]; omega
  generalize pre ++ wd ++ post = A at *
  generalize hB : pre ++ o ++ post = B at *
  generalize pre ++ 64 :: post = P at *
  generalize pre.length = q at *
  unfold litW at l1
  unfold litP at l3
  have HM := Lib.hid hmid
  have HA := Lib.hid hcutA
  have HB := Lib.hid hcutB
  have HG := Lib.hid hgood
  clear hmid hcutA hcutB hgood hb n1 n2 hB
  refine G_enter Try.func9 rfl Try.ntmps9 rfl fun Q hQ hQe => ?_
  (repeat' (first
    | with_reducible first | refine L_seq ?_ | refine L_blk ?_ | refine L_skip ?_ | refine L_endblk ?_ | refine L_ret ?_ | refine L_exit ?_ | refine X_code ?_ | refine X_back ?_ | refine X_blk ?_ | refine X_past (by decide) ?_ | refine L_back ?_
    | ((with_reducible refine Kof.use hK ?_); clear hK hE K E)
    | ((with_reducible refine Eof.use hE ?_); (try clear hK hE K E))
    | ((with_reducible refine Kof.use hKh ?_); clear hKh Kh)
    | ((with_reducible refine Kof.use hKb (P_next ?_)); clear hKb Kb)
    | with_reducible first | refine G_plan 11 [] [0, 1, 2, 3, 4, 5, 6, 7, 8, 9, 10, 11, 12, 13, 14] hQe fun K E hK hE => ?_ | refine G_plan 12 [] [0, 1, 2, 3, 4, 5, 6, 7, 8, 9, 10] hQe fun K E hK hE => ?_
    | ((with_reducible refine W_cond (fun h => ?_) (fun h => ?_)) <;> (try (exfalso; first | assumption | omega)))
    | ((with_reducible first | refine G_region fun K E hK hE => ?_ | refine call_ret can10 (awake_S _) ?_ | refine W_if ?_ | refine W_ifS ?_ | refine P_heads fun Kh hKh => ?_ | refine P_fin fun Kh hKh => ?_ | refine P_each fun Kb hKb => ?_ | refine W_and ?_) <;> (try simp (disch := first | assumption | omega) only [go_sem, seval, f1, f2, f3, l3, *]))
    | ((with_reducible refine W_fresh (fun b hb => ?_)); (repeat (obtain ⟨_, hb⟩ := hb)); (try simp (disch := first | assumption | omega) only [go_sem, seval, f1, f2, f3, l3, *]))
    | ((with_reducible refine W_app (fun o2 ho => ?_)); (try simp (disch := assumption) only [disown_set, disown_own, ownok_o, ownok_m, List.length_map, List.length_cons, List.length_nil, Nat.zero_add, f1, f2, f3, l3] at ho); (repeat (obtain ⟨_, ho⟩ := ho)); (try simp (disch := first | assumption | omega) only [go_sem, seval, f1, f2, f3, l3, *]))
    | ((with_reducible refine W_gd (fun h => ?_) (fun h => ?_)) <;> (try (exfalso; first | assumption | omega)) <;> (try simp (disch := first | assumption | omega) only [go_sem, seval, f1, f2, f3, l3, *]))))
  refine L_loop (fun m env s' => ∃ (i : Nat) (u v : List UInt8) (z : Nat), i ≤ P.length ∧ m + i = P.length ∧ u = (if q < i then A else []) ∧ v = (if q < i then B else []) ∧ z = (if q < i then q else 0) ∧ s' = s ∧ env 0 = .int .i64 a ∧ env 2 = .str o ∧ env 7 = .lst litW .full ∧ env 9 = .str P ∧ env 10 = .str u ∧ env 11 = .str v ∧ env 12 = .int .i64 z ∧ env 13 = .int .i64 i) P.length
    ⟨0, [], [], 0, by omega, by omega, rfl, rfl, rfl, rfl, by ((try simp (disch := first | assumption | omega) only [go_sem, seval, *]) <;> first | rfl | omega), by ((try simp (disch := first | assumption | omega) only [go_sem, seval, *]) <;> first | rfl | omega), by ((try simp (disch := first | assumption | omega) only [go_sem, seval, *]) <;> first | rfl | omega), by ((try simp (disch := first | assumption | omega) only [go_sem, seval, *]) <;> first | rfl | omega), by ((try simp (disch := first | assumption | omega) only [go_sem, seval, *]) <;> first | rfl | omega), by ((try simp (disch := first | assumption | omega) only [go_sem, seval, *]) <;> first | rfl | omega), by ((try simp (disch := first | assumption | omega) only [go_sem, seval, *]) <;> first | rfl | omega), by ((try simp (disch := first | assumption | omega) only [go_sem, seval, *]) <;> first | rfl | omega)⟩ ?_
  rintro m env s' ⟨i, u, v, z, hi, hm, hu, hv, hz, rfl, e0, e2, e7, e9, e10, e11, e12, e13⟩
  unfold litW at e7
  by_cases hlt : i < P.length
  · obtain ⟨c, hc1, hc2⟩ := HM i hlt
    by_cases hiq : i = q
    · have hc : ((c.toNat : Int) = 64) = True := eq_true (hc2.2 hiq)
      have HU : (P.take i ++ wd ++ P.drop (i + 1)) = (if q < i + 1 then A else []) := by rw [if_pos (by omega), hiq]; exact HA
      have HV : (P.take i ++ o ++ P.drop (i + 1)) = (if q < i + 1 then B else []) := by rw [if_pos (by omega), hiq]; exact HB
      have HU' := Lib.hid HU
      have HV' := Lib.hid HV
      have hzq : i = (if q < i + 1 then q else 0) := by rw [if_pos (by omega)]; exact hiq
      have HZ := Lib.hid hzq
      have t1 : (P.take i).length ≤ 201 := by rw [List.length_take]; omega
      have t2 : (P.drop (i + 1)).length ≤ 201 := by rw [List.length_drop]; omega
      have HIQ := Lib.hid hiq
      clear hu hv hz HU HV hzq hc2 hiq
      (repeat' (first
        | with_reducible first | refine L_seq ?_ | refine L_blk ?_ | refine L_skip ?_ | refine L_endblk ?_ | refine L_ret ?_ | refine L_exit ?_ | refine X_code ?_ | refine X_back ?_ | refine X_blk ?_ | refine X_past (by decide) ?_ | refine L_back ?_
        | ((with_reducible refine Kof.use hK ?_); clear hK hE K E)
        | ((with_reducible refine Eof.use hE ?_); (try clear hK hE K E))
        | ((with_reducible refine Kof.use hKh ?_); clear hKh Kh)
        | ((with_reducible refine Kof.use hKb (P_next ?_)); clear hKb Kb)
        | with_reducible first | refine G_plan 11 [] [0, 1, 2, 3, 4, 5, 6, 7, 8, 9, 10, 11, 12, 13, 14] hQe fun K E hK hE => ?_ | refine G_plan 12 [] [0, 1, 2, 3, 4, 5, 6, 7, 8, 9, 10] hQe fun K E hK hE => ?_
        | ((with_reducible refine W_cond (fun h => ?_) (fun h => ?_)) <;> (try (exfalso; first | assumption | omega)))
        | ((with_reducible first | refine G_region fun K E hK hE => ?_ | refine call_ret can10 (awake_S _) ?_ | refine W_if ?_ | refine W_ifS ?_ | refine P_heads fun Kh hKh => ?_ | refine P_fin fun Kh hKh => ?_ | refine P_each fun Kb hKb => ?_ | refine W_and ?_) <;> (try simp (disch := first | assumption | omega) only [go_sem, seval, l1, f1, hc1, List.take_length, List.length_append, *]))
        | ((with_reducible refine W_fresh (fun b hb => ?_)); (repeat (obtain ⟨_, hb⟩ := hb)); (try simp (disch := first | assumption | omega) only [go_sem, seval, l1, f1, hc1, List.take_length, List.length_append, *]))
        | ((with_reducible refine W_app (fun o2 ho => ?_)); (try simp (disch := assumption) only [disown_set, disown_own, ownok_o, ownok_m, List.length_map, List.length_cons, List.length_nil, Nat.zero_add, l1, f1, hc1, List.take_length, List.length_append] at ho); (repeat (obtain ⟨_, ho⟩ := ho)); (try simp (disch := first | assumption | omega) only [go_sem, seval, l1, f1, hc1, List.take_length, List.length_append, *]))
        | ((with_reducible refine W_gd (fun h => ?_) (fun h => ?_)) <;> (try (exfalso; first | assumption | omega)) <;> (try simp (disch := first | assumption | omega) only [go_sem, seval, l1, f1, hc1, List.take_length, List.length_append, *]))))
      all_goals exact ⟨m - 1, by omega, i + 1, _, _, _, by omega, by omega, HU', HV', HZ, rfl, by ((try simp (disch := first | assumption | omega) only [go_sem, seval, *]) <;> first | rfl | omega), by ((try simp (disch := first | assumption | omega) only [go_sem, seval, *]) <;> first | rfl | omega), by ((try simp (disch := first | assumption | omega) only [go_sem, seval, *]) <;> first | rfl | omega), by ((try simp (disch := first | assumption | omega) only [go_sem, seval, *]) <;> first | rfl | omega), by ((try simp (disch := first | assumption | omega) only [go_sem, seval, *]) <;> first | rfl | omega), by ((try simp (disch := first | assumption | omega) only [go_sem, seval, *]) <;> first | rfl | omega), by ((try simp (disch := first | assumption | omega) only [go_sem, seval, *]) <;> first | rfl | omega), by ((try simp (disch := first | assumption | omega) only [go_sem, seval, *]) <;> first | rfl | omega)⟩
    · have hc : ¬ (c.toNat : Int) = 64 := fun h => hiq (hc2.1 h)
      have HU : Hid (u = if q < i + 1 then A else []) := by show u = _; rw [hu]; by_cases h : q < i <;> first | (rw [if_pos h, if_pos (by omega)]; done) | (rw [if_neg h, if_neg (by omega)]; done)
      have HV : Hid (v = if q < i + 1 then B else []) := by show v = _; rw [hv]; by_cases h : q < i <;> first | (rw [if_pos h, if_pos (by omega)]; done) | (rw [if_neg h, if_neg (by omega)]; done)
      have HZ : Hid (z = if q < i + 1 then q else 0) := by show z = _; rw [hz]; by_cases h : q < i <;> first | (rw [if_pos h, if_pos (by omega)]; done) | (rw [if_neg h, if_neg (by omega)]; done)
      clear hu hv hz hc2
      (repeat' (first
        | with_reducible first | refine L_seq ?_ | refine L_blk ?_ | refine L_skip ?_ | refine L_endblk ?_ | refine L_ret ?_ | refine L_exit ?_ | refine X_code ?_ | refine X_back ?_ | refine X_blk ?_ | refine X_past (by decide) ?_ | refine L_back ?_
        | ((with_reducible refine Kof.use hK ?_); clear hK hE K E)
        | ((with_reducible refine Eof.use hE ?_); (try clear hK hE K E))
        | ((with_reducible refine Kof.use hKh ?_); clear hKh Kh)
        | ((with_reducible refine Kof.use hKb (P_next ?_)); clear hKb Kb)
        | with_reducible first | refine G_plan 11 [] [0, 1, 2, 3, 4, 5, 6, 7, 8, 9, 10, 11, 12, 13, 14] hQe fun K E hK hE => ?_ | refine G_plan 12 [] [0, 1, 2, 3, 4, 5, 6, 7, 8, 9, 10] hQe fun K E hK hE => ?_
        | ((with_reducible refine W_cond (fun h => ?_) (fun h => ?_)) <;> (try (exfalso; first | assumption | omega)))
        | ((with_reducible first | refine G_region fun K E hK hE => ?_ | refine call_ret can10 (awake_S _) ?_ | refine W_if ?_ | refine W_ifS ?_ | refine P_heads fun Kh hKh => ?_ | refine P_fin fun Kh hKh => ?_ | refine P_each fun Kb hKb => ?_ | refine W_and ?_) <;> (try simp (disch := first | assumption | omega) only [go_sem, seval, l1, f1, hc1, List.take_length, List.length_append, *]))
        | ((with_reducible refine W_fresh (fun b hb => ?_)); (repeat (obtain ⟨_, hb⟩ := hb)); (try simp (disch := first | assumption | omega) only [go_sem, seval, l1, f1, hc1, List.take_length, List.length_append, *]))
        | ((with_reducible refine W_app (fun o2 ho => ?_)); (try simp (disch := assumption) only [disown_set, disown_own, ownok_o, ownok_m, List.length_map, List.length_cons, List.length_nil, Nat.zero_add, l1, f1, hc1, List.take_length, List.length_append] at ho); (repeat (obtain ⟨_, ho⟩ := ho)); (try simp (disch := first | assumption | omega) only [go_sem, seval, l1, f1, hc1, List.take_length, List.length_append, *]))
        | ((with_reducible refine W_gd (fun h => ?_) (fun h => ?_)) <;> (try (exfalso; first | assumption | omega)) <;> (try simp (disch := first | assumption | omega) only [go_sem, seval, l1, f1, hc1, List.take_length, List.length_append, *]))))
      all_goals exact ⟨m - 1, by omega, i + 1, u, v, z, by omega, by omega, HU, HV, HZ, rfl, by ((try simp (disch := first | assumption | omega) only [go_sem, seval, *]) <;> first | rfl | omega), by ((try simp (disch := first | assumption | omega) only [go_sem, seval, *]) <;> first | rfl | omega), by ((try simp (disch := first | assumption | omega) only [go_sem, seval, *]) <;> first | rfl | omega), by ((try simp (disch := first | assumption | omega) only [go_sem, seval, *]) <;> first | rfl | omega), by ((try simp (disch := first | assumption | omega) only [go_sem, seval, *]) <;> first | rfl | omega), by ((try simp (disch := first | assumption | omega) only [go_sem, seval, *]) <;> first | rfl | omega), by ((try simp (disch := first | assumption | omega) only [go_sem, seval, *]) <;> first | rfl | omega), by ((try simp (disch := first | assumption | omega) only [go_sem, seval, *]) <;> first | rfl | omega)⟩
  · have hqi : q < i := by omega
    rw [if_pos hqi] at hu hv hz
    have hz1 : ¬ (i1 : Int) < (z : Int) := by omega
    rw [← hu] at p1
    rw [← hv] at p2
    have HV := Lib.hid hv
    clear hu hv hz
    cases ho : isNameB o with
    | false =>
      rw [ho] at p3
      clear ho
      (repeat' (first
        | with_reducible first | refine L_seq ?_ | refine L_blk ?_ | refine L_skip ?_ | refine L_endblk ?_ | refine L_ret ?_ | refine L_exit ?_ | refine X_code ?_ | refine X_back ?_ | refine X_blk ?_ | refine X_past (by decide) ?_ | refine L_back ?_
        | ((with_reducible refine Kof.use hK ?_); clear hK hE K E)
        | ((with_reducible refine Eof.use hE ?_); (try clear hK hE K E))
        | ((with_reducible refine Kof.use hKh ?_); clear hKh Kh)
        | ((with_reducible refine Kof.use hKb (P_next ?_)); clear hKb Kb)
        | with_reducible first | refine G_plan 11 [] [0, 1, 2, 3, 4, 5, 6, 7, 8, 9, 10, 11, 12, 13, 14] hQe fun K E hK hE => ?_ | refine G_plan 12 [] [0, 1, 2, 3, 4, 5, 6, 7, 8, 9, 10] hQe fun K E hK hE => ?_
        | ((with_reducible refine W_cond (fun h => ?_) (fun h => ?_)) <;> (try (exfalso; first | assumption | omega)))
        | ((with_reducible first | refine G_region fun K E hK hE => ?_ | refine call_ret can11 (p1 _) ?_ | refine call_ret can18 (p3 _) ?_ | refine call_ret can10 (awake_S _) ?_ | refine W_if ?_ | refine W_ifS ?_ | refine P_heads fun Kh hKh => ?_ | refine P_fin fun Kh hKh => ?_ | refine P_each fun Kb hKb => ?_ | refine W_and ?_) <;> (try simp (disch := first | assumption | omega) only [go_sem, seval, *]))
        | ((with_reducible refine W_fresh (fun b hb => ?_)); (repeat (obtain ⟨_, hb⟩ := hb)); (try simp (disch := first | assumption | omega) only [go_sem, seval, *]))
        | ((with_reducible refine W_app (fun o2 ho => ?_)); (repeat (obtain ⟨_, ho⟩ := ho)); (try simp (disch := first | assumption | omega) only [go_sem, seval, *]))
        | ((with_reducible refine W_gd (fun h => ?_) (fun h => ?_)) <;> (try (exfalso; first | assumption | omega)) <;> (try simp (disch := first | assumption | omega) only [go_sem, seval, *]))))
      all_goals (first | refine G_ret hQ (by simp (disch := first | assumption | omega) only [res9, go_sem, seval, *] <;> rfl) ?_ | refine G_norm hQ (by simp (disch := first | assumption | omega) only [res9, go_sem, seval, *] <;> rfl) ?_ | refine G_pan hQ ?_)
      all_goals (refine ⟨_, _, Wk.of_eq ?_, ?_, rfl, rfl⟩)
      all_goals first | rfl | ((try dsimp only); (repeat (first | exact Fg.refl _ | exact Fg.own (by assumption) | (refine Fg.set ?_ _ _) | (refine Fg.setA ?_ (by first | assumption | (simp (disch := assumption) only [own_rd, St.set, if_false, if_true, *]; done))) )); done)
    | true =>
      have hg := HG ho
      rw [show B = v from HV.symm] at hg
      rw [hg] at p2
      rw [ho] at p3
      simp only [parseV, srcV, List.map_cons, List.map_nil, hcl] at p2
      clear ho hg hcl
      (repeat' (first
        | with_reducible first | refine L_seq ?_ | refine L_blk ?_ | refine L_skip ?_ | refine L_endblk ?_ | refine L_ret ?_ | refine L_exit ?_ | refine X_code ?_ | refine X_back ?_ | refine X_blk ?_ | refine X_past (by decide) ?_ | refine L_back ?_
        | ((with_reducible refine Kof.use hK ?_); clear hK hE K E)
        | ((with_reducible refine Eof.use hE ?_); (try clear hK hE K E))
        | ((with_reducible refine Kof.use hKh ?_); clear hKh Kh)
        | ((with_reducible refine Kof.use hKb (P_next ?_)); clear hKb Kb)
        | with_reducible first | refine G_plan 11 [] [0, 1, 2, 3, 4, 5, 6, 7, 8, 9, 10, 11, 12, 13, 14] hQe fun K E hK hE => ?_ | refine G_plan 12 [] [0, 1, 2, 3, 4, 5, 6, 7, 8, 9, 10] hQe fun K E hK hE => ?_
        | ((with_reducible refine W_cond (fun h => ?_) (fun h => ?_)) <;> (try (exfalso; first | assumption | omega)))
        | ((with_reducible first | refine G_region fun K E hK hE => ?_ | refine call_ret can11 (p1 _) ?_ | refine call_ret can11 (p2 _) ?_ | refine call_ret can18 (p3 _) ?_ | refine call_ret can10 (awake_S _) ?_ | refine W_if ?_ | refine W_ifS ?_ | refine P_heads fun Kh hKh => ?_ | refine P_fin fun Kh hKh => ?_ | refine P_each fun Kb hKb => ?_ | refine W_and ?_) <;> (try simp (disch := first | assumption | omega) only [go_sem, seval, hcl1, *]))
        | ((with_reducible refine W_fresh (fun b hb => ?_)); (repeat (obtain ⟨_, hb⟩ := hb)); (try simp (disch := first | assumption | omega) only [go_sem, seval, hcl1, *]))
        | ((with_reducible refine W_app (fun o2 ho => ?_)); (try simp (disch := assumption) only [disown_set, disown_own, ownok_o, ownok_m, List.length_map, List.length_cons, List.length_nil, Nat.zero_add, hcl1] at ho); (repeat (obtain ⟨_, ho⟩ := ho)); (try simp (disch := first | assumption | omega) only [go_sem, seval, hcl1, *]))
        | ((with_reducible refine W_gd (fun h => ?_) (fun h => ?_)) <;> (try (exfalso; first | assumption | omega)) <;> (try simp (disch := first | assumption | omega) only [go_sem, seval, hcl1, *]))))
      all_goals (first | refine G_ret hQ (by simp (disch := first | assumption | omega) only [res9, go_sem, seval, *] <;> rfl) ?_ | refine G_norm hQ (by simp (disch := first | assumption | omega) only [res9, go_sem, seval, *] <;> rfl) ?_ | refine G_pan hQ ?_)
      all_goals (refine ⟨_, _, Wk.of_eq ?_, ?_, rfl, rfl⟩)
      all_goals first | rfl | ((try dsimp only); (repeat (first | exact Fg.refl _ | exact Fg.own (by assumption) | (refine Fg.set ?_ _ _) | (refine Fg.setA ?_ (by first | assumption | (simp (disch := assumption) only [own_rd, St.set, if_false, if_true, *]; done))) )); done)
end Go.Proofs.Ytilpdejbldllbaa
