/- What is proved: The small functions of the statements about sound programs. Conditions: what fits a memory; What osierlaw12's awake hands back. Conditions: those that stand in the statements. -/
import Derived.Test.YtdibndmkeipgbaaGreatDoorZYnj
import Derived.Test.YtdibndmkeipgbaaGreatDoorZYi
import Derived.Test.YtdibndmkeipgbaaGreatDoorZGpj
import Derived.KernelRfl
set_option linter.unusedSimpArgs false
set_option linter.unusedVariables false
set_option maxRecDepth 100000
namespace Go.Proofs.YtdibndmkeipgbaaGreatDoor
open Go.RowKit

theorem lst_eq {α : Type} {a b : List α} (hl : a.length = b.length) (h : ∀ i : Nat, i < a.length → a[i]? = b[i]?) : a = b := by
  apply List.ext_getElem? 
  intro i
  by_cases hi : i < a.length
  · exact h i hi
  · rw [List.getElem?_eq_none (by omega), List.getElem?_eq_none (by omega)]
set_option maxHeartbeats 2000000 in
theorem SameInts_S (a b : List Int) (o1 o2 : Own) (ha : a.length ≤ 140737488355328) (hb : b.length ≤ 140737488355328) (t : St) : SRet Tryz.prog 13 [.lst (intsL a) o1, .lst (intsL b) o2] t (.bool (decide (a = b))) t := by
  have la : (intsL a).length = a.length := intsL_len
  have lb : (intsL b).length = b.length := intsL_len
  by_cases hl : a.length = b.length
  · have hli : ((a.length : Int) = (b.length : Int)) = True := eq_true (by omega)
    have hlz : ((b.length : Int) = (b.length : Int)) = True := eq_true rfl
    refine G_enter Tryz.func13 rfl Tryz.ntmps13 rfl fun Q hQ hQe => ?_
    (repeat' (first | refine Ctl ?_ | ((with_reducible refine Kof.use hK ?_); clear hK hE K E) | ((with_reducible refine Eof.use hE ?_); (try clear hK hE K E)) | ((with_reducible refine Kof.use hKh ?_); clear hKh Kh) | ((with_reducible refine Kof.use hKb (P_next ?_)); clear hKb Kb) | (with_reducible refine G_plan 6 [] [0, 1, 2, 3, 4, 5, 6, 7, 8] hQe fun K E hK hE => ?_) | ((with_reducible refine W_cond (fun h => ?_) (fun h => ?_)) <;> (try (exfalso; first | assumption | omega))) | ((first | (with_reducible first | refine G_region fun K E hK hE => ?_ | refine W_if ?_ | refine W_ifS ?_ | refine P_heads fun Kh hKh => ?_ | refine P_fin fun Kh hKh => ?_ | refine P_each fun Kb hKb => ?_ | refine W_and ?_)) <;> (try simp (disch := first | assumption | omega) only [go_sem, seval, la, lb, hl, *]))))
    refine G_loop (fun m env s' => ∃ i : Nat, i ≤ a.length ∧ m + i = a.length ∧ s' = t ∧ Hid (∀ j : Nat, j < i → a[j]? = b[j]?) ∧ env 0 = .lst (intsL a) o1 ∧ env 1 = .lst (intsL b) o2 ∧ env 5 = .int .i64 i) a.length ?_ ?_
    · exact ⟨t, Fg.refl _, 0, by omega, by omega, rfl, Lib.hid (fun j hj => by omega), z_sl, z_sl, z_sl⟩
    · rintro m env s' ⟨i, hi, hm, rfl, HE, e0, e1, e5⟩
      by_cases hlt : i < a.length
      · obtain ⟨c, hc⟩ := uget hlt
        obtain ⟨d, hd⟩ := uget (l := b) (i := i) (by omega)
        have hsx := intsL_at hc
        have hsy := intsL_at hd
        have HC := Lib.hid hc
        have HD := Lib.hid hd
        clear hc hd
        by_cases hcd : c = d
        · have HCD := Lib.hid hcd
          have hcc : (c = d) = True := eq_true hcd
          (repeat' (first | refine Ctl ?_ | ((with_reducible refine Kof.use hK ?_); clear hK hE K E) | ((with_reducible refine Eof.use hE ?_); (try clear hK hE K E)) | ((with_reducible refine Kof.use hKh ?_); clear hKh Kh) | ((with_reducible refine Kof.use hKb (P_next ?_)); clear hKb Kb) | (with_reducible refine G_plan 6 [] [0, 1, 2, 3, 4, 5, 6, 7, 8] hQe fun K E hK hE => ?_) | ((with_reducible refine W_cond (fun h => ?_) (fun h => ?_)) <;> (try (exfalso; first | assumption | omega))) | ((first | (with_reducible first | refine G_region fun K E hK hE => ?_ | refine W_if ?_ | refine W_ifS ?_ | refine P_heads fun Kh hKh => ?_ | refine P_fin fun Kh hKh => ?_ | refine P_each fun Kb hKb => ?_ | refine W_and ?_)) <;> (try simp (disch := first | assumption | omega) only [go_sem, seval, la, lb, hl, hsx, hsy, *]))))
          refine ⟨s', Fg.refl _, m - 1, by omega, i + 1, by omega, by omega, rfl, Lib.hid (fun j hj => ?_), z_sl, z_sl, z_sl⟩
          by_cases hj2 : j = i
          · subst hj2; rw [HC.out, HD.out, HCD.out]
          · exact HE.out j (by omega)
        · have hcc : (c = d) = False := eq_false hcd
          (repeat' (first | refine Ctl ?_ | ((with_reducible refine Kof.use hK ?_); clear hK hE K E) | ((with_reducible refine Eof.use hE ?_); (try clear hK hE K E)) | ((with_reducible refine Kof.use hKh ?_); clear hKh Kh) | ((with_reducible refine Kof.use hKb (P_next ?_)); clear hKb Kb) | (with_reducible refine G_plan 6 [] [0, 1, 2, 3, 4, 5, 6, 7, 8] hQe fun K E hK hE => ?_) | ((with_reducible refine W_cond (fun h => ?_) (fun h => ?_)) <;> (try (exfalso; first | assumption | omega))) | ((first | (with_reducible first | refine G_region fun K E hK hE => ?_ | refine W_if ?_ | refine W_ifS ?_ | refine P_heads fun Kh hKh => ?_ | refine P_fin fun Kh hKh => ?_ | refine P_each fun Kb hKb => ?_ | refine W_and ?_)) <;> (try simp (disch := first | assumption | omega) only [go_sem, seval, la, lb, hl, hsx, hsy, *]))))
          all_goals (first | refine W_ret res13 hQ ?_ | refine W_norm res13 hQ ?_ | refine G_pan hQ ?_)
          all_goals (refine ⟨_, _, Wk.of_eq ?_, ?_, rfl, rfl⟩)
          · rw [decide_eq_false (fun h => hcd (by have := HC.out; rw [h, HD.out] at this; injection this with this; exact this.symm))]
          · (exact z_fg)
      · (repeat' (first | refine Ctl ?_ | ((with_reducible refine Kof.use hK ?_); clear hK hE K E) | ((with_reducible refine Eof.use hE ?_); (try clear hK hE K E)) | ((with_reducible refine Kof.use hKh ?_); clear hKh Kh) | ((with_reducible refine Kof.use hKb (P_next ?_)); clear hKb Kb) | (with_reducible refine G_plan 6 [] [0, 1, 2, 3, 4, 5, 6, 7, 8] hQe fun K E hK hE => ?_) | ((with_reducible refine W_cond (fun h => ?_) (fun h => ?_)) <;> (try (exfalso; first | assumption | omega))) | ((first | (with_reducible first | refine G_region fun K E hK hE => ?_ | refine W_if ?_ | refine W_ifS ?_ | refine P_heads fun Kh hKh => ?_ | refine P_fin fun Kh hKh => ?_ | refine P_each fun Kb hKb => ?_ | refine W_and ?_)) <;> (try simp (disch := first | assumption | omega) only [go_sem, seval, la, lb, hl, *]))))
        all_goals (first | refine W_ret res13 hQ ?_ | refine W_norm res13 hQ ?_ | refine G_pan hQ ?_)
        all_goals (refine ⟨_, _, Wk.of_eq ?_, ?_, rfl, rfl⟩)
        · rw [decide_eq_true (lst_eq hl (fun j hj => HE.out j (by omega)))]
        · (exact z_fg)
  · have hli : ((a.length : Int) = (b.length : Int)) = False := eq_false (by omega)
    refine G_enter Tryz.func13 rfl Tryz.ntmps13 rfl fun Q hQ hQe => ?_
    (repeat' (first | refine Ctl ?_ | ((with_reducible refine Kof.use hK ?_); clear hK hE K E) | ((with_reducible refine Eof.use hE ?_); (try clear hK hE K E)) | ((with_reducible refine Kof.use hKh ?_); clear hKh Kh) | ((with_reducible refine Kof.use hKb (P_next ?_)); clear hKb Kb) | (with_reducible refine G_plan 6 [] [0, 1, 2, 3, 4, 5, 6, 7, 8] hQe fun K E hK hE => ?_) | ((with_reducible refine W_cond (fun h => ?_) (fun h => ?_)) <;> (try (exfalso; first | assumption | omega))) | ((first | (with_reducible first | refine G_region fun K E hK hE => ?_ | refine W_if ?_ | refine W_ifS ?_ | refine P_heads fun Kh hKh => ?_ | refine P_fin fun Kh hKh => ?_ | refine P_each fun Kb hKb => ?_ | refine W_and ?_)) <;> (try simp (disch := first | assumption | omega) only [go_sem, seval, la, lb, *]))))
    all_goals (first | refine W_ret res13 hQ ?_ | refine W_norm res13 hQ ?_ | refine G_pan hQ ?_)
    all_goals (refine ⟨_, _, Wk.of_eq ?_, ?_, rfl, rfl⟩)
    · rw [decide_eq_false (fun h => hl (by rw [h]))]
    · (exact z_fg)
/-- Where a relation stands; -1: nowhere. -/
def relZ (cs : List Dcl) (n : List UInt8) : Int := match relI cs n with | some k => k | none => -1
def relD (cs : List Dcl) (n : List UInt8) (i : Nat) : Int := match ixT n ((cs.drop i).map (·.name)) with | some k => ((k + i : Nat) : Int) | none => -1
theorem relD_end {cs : List Dcl} {n : List UInt8} : relD cs n cs.length = -1 := by unfold relD; rw [List.drop_length]; rfl
theorem relD_at {cs : List Dcl} {n : List UInt8} {i : Nat} {c : Dcl} (h : cs[i]? = some c) : relD cs n i = if n = c.name then (i : Int) else relD cs n (i + 1) := by
  have hlt : i < cs.length := (List.getElem?_eq_some_iff.1 h).1
  have hc : cs[i] = c := by rw [List.getElem?_eq_getElem hlt] at h; injection h
  unfold relD
  rw [List.drop_eq_getElem_cons hlt, hc, List.map_cons]
  simp only [ixT]
  by_cases e : n = c.name
  · rw [if_pos e, if_pos e]; simp
  · rw [if_neg e, if_neg e]
    cases ixT n ((cs.drop (i + 1)).map (·.name)) with
    | none => rfl
    | some k => simp only [Option.map_some]; congr 1; omega
set_option maxHeartbeats 2000000 in
theorem RRel_S (x : Pgm) (n : List UInt8) (hx : x.decls.length ≤ 140737488355328) (t : St) : SRet Tryz.prog 26 [.agg (pgC x), .str n] t (.int .i64 (relZ x.decls n)) t := by
  obtain ⟨ds, cs, rs⟩ := x
  simp only [pgC] at hx ⊢
  generalize ds.map dmC = x1
  generalize rs.map rulC = x3
  have hl : (cs.map dclC).length = cs.length := by simp
  generalize hR : relZ cs n = R
  have HR := Lib.hid hR
  clear hR
  refine G_enter Tryz.func26 rfl Tryz.ntmps26 rfl fun Q hQ hQe => ?_
  (repeat' (first | refine Ctl ?_ | ((with_reducible refine Kof.use hK ?_); clear hK hE K E) | ((with_reducible refine Eof.use hE ?_); (try clear hK hE K E)) | ((with_reducible refine W_cond (fun h => ?_) (fun h => ?_)) <;> (try (exfalso; first | assumption | omega))) | ((first | (with_reducible first | refine G_region fun K E hK hE => ?_ | refine W_if ?_ | refine W_ifS ?_ | refine W_and ?_) | ((with_reducible refine W_fresh (fun b hb => ?_)); (repeat (obtain ⟨_, hb⟩ := hb)))) <;> (try simp (disch := first | assumption | omega) only [go_sem, seval, hl, *]))))
  have hSb : (t.set b (.obj 26 [.lst x1 .no, .lst (cs.map dclC) .no, .lst x3 .no])) b = .obj 26 [.lst x1 .no, .lst (cs.map dclC) .no, .lst x3 .no] := St.set_same _ _ _
  have hF : Fg (t.set b (.obj 26 [.lst x1 .no, .lst (cs.map dclC) .no, .lst x3 .no])) t := Fg.of_set _ hb
  generalize t.set b (.obj 26 [.lst x1 .no, .lst (cs.map dclC) .no, .lst x3 .no]) = S at *
  have HF := Lib.hid hF
  clear hF hb
  refine G_loop (fun m env s' => ∃ i : Nat, i ≤ cs.length ∧ m + i = cs.length ∧ s' = S ∧ Hid (relD cs n i = R) ∧ env 2 = .ptr b 0 ∧ env 1 = .str n ∧ env 5 = .int .i64 i) cs.length ?_ ?_
  · exact ⟨S, Fg.refl _, 0, by omega, by omega, rfl, HR, z_sl, z_sl, z_sl⟩
  · clear HR
    rintro m env s' ⟨i, hi, hm, rfl, HE, e2, e1, e5⟩
    by_cases hlt : i < cs.length
    · obtain ⟨c, hc⟩ := uget hlt
      have hsx := dclC_at hc
      have hE := HE.out
      rw [relD_at hc] at hE
      obtain ⟨cn, cd⟩ := c
      simp only at hE
      clear hc HE
      by_cases hcn : cn = n
      · subst hcn
        rw [if_pos rfl] at hE
        have HE := Lib.hid hE
        clear hE
        (repeat' (first | refine Ctl ?_ | ((with_reducible refine Kof.use hK ?_); clear hK hE K E) | ((with_reducible refine Eof.use hE ?_); (try clear hK hE K E)) | ((with_reducible refine W_cond (fun h => ?_) (fun h => ?_)) <;> (try (exfalso; first | assumption | omega))) | ((first | (with_reducible first | refine G_region fun K E hK hE => ?_ | refine W_if ?_ | refine W_ifS ?_ | refine W_and ?_) | ((with_reducible refine W_fresh (fun b hb => ?_)); (repeat (obtain ⟨_, hb⟩ := hb)))) <;> (try simp (disch := first | assumption | omega) only [go_sem, seval, hl, hsx, dclC, *]))))
        all_goals (first | refine W_ret res26 hQ ?_ | refine W_norm res26 hQ ?_ | refine G_pan hQ ?_)
        all_goals (refine ⟨_, _, Wk.of_eq ?_, ?_, rfl, rfl⟩)
        · rw [show _ = R from HE]
        · exact HF.out
      · rw [if_neg (fun h => hcn h.symm)] at hE
        have HE := Lib.hid hE
        have hcf : (cn = n) = False := eq_false hcn
        clear hE
        (repeat' (first | refine Ctl ?_ | ((with_reducible refine Kof.use hK ?_); clear hK hE K E) | ((with_reducible refine Eof.use hE ?_); (try clear hK hE K E)) | ((with_reducible refine W_cond (fun h => ?_) (fun h => ?_)) <;> (try (exfalso; first | assumption | omega))) | ((first | (with_reducible first | refine G_region fun K E hK hE => ?_ | refine W_if ?_ | refine W_ifS ?_ | refine W_and ?_) | ((with_reducible refine W_fresh (fun b hb => ?_)); (repeat (obtain ⟨_, hb⟩ := hb)))) <;> (try simp (disch := first | assumption | omega) only [go_sem, seval, hl, hsx, dclC, *]))))
        exact ⟨s', Fg.refl _, m - 1, by omega, i + 1, by omega, by omega, rfl, HE, z_sl, z_sl, z_sl⟩
    · have hE := HE.out
      rw [show i = cs.length by omega, relD_end] at hE
      have HE2 := Lib.hid hE
      clear hE HE
      (repeat' (first | refine Ctl ?_ | ((with_reducible refine Kof.use hK ?_); clear hK hE K E) | ((with_reducible refine Eof.use hE ?_); (try clear hK hE K E)) | ((with_reducible refine W_cond (fun h => ?_) (fun h => ?_)) <;> (try (exfalso; first | assumption | omega))) | ((first | (with_reducible first | refine G_region fun K E hK hE => ?_ | refine W_if ?_ | refine W_ifS ?_ | refine W_and ?_) | ((with_reducible refine W_fresh (fun b hb => ?_)); (repeat (obtain ⟨_, hb⟩ := hb)))) <;> (try simp (disch := first | assumption | omega) only [go_sem, seval, hl, *]))))
      all_goals (first | refine W_ret res26 hQ ?_ | refine W_norm res26 hQ ?_ | refine G_pan hQ ?_)
      all_goals (refine ⟨_, _, Wk.of_eq ?_, ?_, rfl, rfl⟩)
      · rw [show _ = R from HE2]
      · exact HF.out
set_option maxHeartbeats 2000000 in
theorem program_S (l : List UInt8) (x : Pgm) (hl : l.length ≤ 9223372036854775000) (h : parseR l = .ok x) (t : St) : SRet Tryz.prog 16 [.str l] t (.agg (pgC x)) t := by
  have p1 := fun s => YParse_S l hl x h s
  simp only [pgC] at p1 ⊢
  generalize x.doms.map dmC = x1 at *
  generalize x.decls.map dclC = x2 at *
  generalize x.rules.map rulC = x3 at *
  clear h hl
  refine G_enter Tryz.func16 rfl Tryz.ntmps16 rfl fun Q hQ hQe => ?_
  (repeat' (first | refine Ctl ?_ | ((with_reducible refine Kof.use hK ?_); clear hK hE K E) | ((with_reducible refine Eof.use hE ?_); (try clear hK hE K E)) | ((with_reducible refine W_cond (fun h => ?_) (fun h => ?_)) <;> (try (exfalso; first | assumption | omega))) | ((first | (with_reducible first | refine G_region fun K E hK hE => ?_ | refine call_ret can22 (p1 _) ?_ | refine W_if ?_ | refine W_ifS ?_ | refine W_and ?_) | ((with_reducible refine W_fresh (fun b hb => ?_)); (repeat (obtain ⟨_, hb⟩ := hb)))) <;> (try simp (disch := first | assumption | omega) only [go_sem, seval, *]))))
  all_goals (first | refine W_ret res16 hQ ?_ | refine W_norm res16 hQ ?_ | refine G_pan hQ ?_)
  all_goals (refine ⟨_, _, Wk.of_eq ?_, ?_, rfl, rfl⟩)
  all_goals first | rfl | (exact z_fg)
end Go.Proofs.YtdibndmkeipgbaaGreatDoor
set_option maxRecDepth 100000
namespace Go.Proofs.YtdibndmkeipgbaaGreatDoor
open Go.RowKit

def awD : List Dm := [⟨[86], 4⟩]
def awC : List Dcl := [⟨[113], [[86]]⟩, ⟨[115], [[86]]⟩, ⟨[112], [[86]]⟩]
def awR : Rul := ⟨⟨false, [112], [⟨true, [120], 0⟩]⟩, [⟨false, [113], [⟨true, [120], 0⟩]⟩, ⟨true, [115], [⟨true, [120], 0⟩]⟩]⟩
def aw1 : Pgm := ⟨awD, awC, [awR, ⟨⟨false, [113], [⟨false, [], 1⟩]⟩, []⟩, ⟨⟨false, [115], [⟨false, [], 2⟩]⟩, []⟩]⟩
def aw2 : Pgm := ⟨awD, awC, [awR]⟩
def aw3 : Pgm := ⟨awD, [⟨[112], [[86]]⟩], [⟨⟨false, [112], [⟨false, [], 1⟩]⟩, []⟩, ⟨⟨false, [112], [⟨true, [120], 0⟩]⟩, []⟩]⟩
theorem aw1P : parseR [100, 111, 109, 32, 86, 32, 52, 46, 32, 114, 101, 108, 32, 113, 40, 86, 41, 46, 32, 114, 101, 108, 32, 115, 40, 86, 41, 46, 32, 114, 101, 108, 32, 112, 40, 86, 41, 46, 32, 112, 40, 120, 41, 32, 58, 45, 32, 113, 40, 120, 41, 44, 32, 33, 115, 40, 120, 41, 46, 32, 113, 40, 49, 41, 46, 32, 115, 40, 50, 41, 46] = .ok aw1 := by kernel_rfl
theorem aw2P : parseR [100, 111, 109, 32, 86, 32, 52, 46, 32, 114, 101, 108, 32, 113, 40, 86, 41, 46, 32, 114, 101, 108, 32, 115, 40, 86, 41, 46, 32, 114, 101, 108, 32, 112, 40, 86, 41, 46, 32, 112, 40, 120, 41, 32, 58, 45, 32, 113, 40, 120, 41, 44, 32, 33, 115, 40, 120, 41, 46] = .ok aw2 := by kernel_rfl
theorem aw3P : parseR [100, 111, 109, 32, 86, 32, 52, 46, 32, 114, 101, 108, 32, 112, 40, 86, 41, 46, 32, 112, 40, 49, 41, 46, 32, 112, 40, 120, 41, 46] = .ok aw3 := by kernel_rfl
theorem aw1ok : PgmOk aw1 := pgm_ok (by kernel_rfl)
theorem aw2ok : PgmOk aw2 := pgm_ok (by kernel_rfl)
theorem aw3ok : PgmOk aw3 := pgm_ok (by kernel_rfl)
theorem awLeast : Least 3 [⟨2, 0, 0⟩, ⟨2, 1, 1⟩] [0, 0, 1] := by
  refine ⟨rfl, ?_, ?_, ?_⟩
  · intro e he
    simp only [List.mem_cons, List.not_mem_nil, or_false] at he
    rcases he with rfl | rfl <;> decide
  · intro f hf i
    have h := hf ⟨2, 1, 1⟩ (by simp)
    simp only at h
    match i with
    | 0 => exact Nat.zero_le _
    | 1 => exact Nat.zero_le _
    | 2 => show 1 ≤ f 2; omega
    | i + 3 => show 0 ≤ _; exact Nat.zero_le _
  · intro i hi
    match i with
    | 0 => decide
    | 1 => decide
    | 2 => decide
theorem aw1S : soundP aw1 = (-1, 0, [0, 0, 1]) := by
  have h1 : readE aw1 = 0 := by kernel_rfl
  have h2 : badR aw1 0 aw1.rules = none := by kernel_rfl
  have h3 : edgP aw1 = [⟨2, 0, 0⟩, ⟨2, 1, 1⟩] := by kernel_rfl
  have h4 : stgP aw1 = some [0, 0, 1] := by unfold stgP; rw [h3]; exact stg_some awLeast
  unfold soundP
  rw [if_neg (by rw [h1]; simp), h2, h4]
theorem aw2S : soundP aw2 = (-1, 0, [0, 0, 1]) := by
  have h1 : readE aw2 = 0 := by kernel_rfl
  have h2 : badR aw2 0 aw2.rules = none := by kernel_rfl
  have h3 : edgP aw2 = [⟨2, 0, 0⟩, ⟨2, 1, 1⟩] := by kernel_rfl
  have h4 : stgP aw2 = some [0, 0, 1] := by unfold stgP; rw [h3]; exact stg_some awLeast
  unfold soundP
  rw [if_neg (by rw [h1]; simp), h2, h4]
theorem aw3S : soundP aw3 = (1, 125, []) := by
  have h1 : readE aw3 = 0 := by kernel_rfl
  have h2 : badR aw3 0 aw3.rules = some (1, 125) := by kernel_rfl
  unfold soundP
  rw [if_neg (by rw [h1]; simp), h2]
  rfl
set_option maxHeartbeats 4000000 in
theorem Sawake_S (s : St) : SRet Tryz.prog 6 [] s (.bool true) s := by
  have p1 := fun s => program_S [100, 111, 109, 32, 86, 32, 52, 46, 32, 114, 101, 108, 32, 113, 40, 86, 41, 46, 32, 114, 101, 108, 32, 115, 40, 86, 41, 46, 32, 114, 101, 108, 32, 112, 40, 86, 41, 46, 32, 112, 40, 120, 41, 32, 58, 45, 32, 113, 40, 120, 41, 44, 32, 33, 115, 40, 120, 41, 46, 32, 113, 40, 49, 41, 46, 32, 115, 40, 50, 41, 46] aw1 (by decide) aw1P s
  have p2 := fun s => program_S [100, 111, 109, 32, 86, 32, 52, 46, 32, 114, 101, 108, 32, 113, 40, 86, 41, 46, 32, 114, 101, 108, 32, 115, 40, 86, 41, 46, 32, 114, 101, 108, 32, 112, 40, 86, 41, 46, 32, 112, 40, 120, 41, 32, 58, 45, 32, 113, 40, 120, 41, 44, 32, 33, 115, 40, 120, 41, 46] aw2 (by decide) aw2P s
  have p3 := fun s => program_S [100, 111, 109, 32, 86, 32, 52, 46, 32, 114, 101, 108, 32, 112, 40, 86, 41, 46, 32, 112, 40, 49, 41, 46, 32, 112, 40, 120, 41, 46] aw3 (by decide) aw3P s
  have c1 := fun s => Scheck_S aw1 aw1ok s
  have c3 := fun s => Scheck_S aw3 aw3ok s
  have c2 := fun s => Sstr_S aw2 aw2ok s
  have c4 := fun o s => SameInts_S [0, 0, 1] [0, 0, 1] .no o (by decide) (by decide) s
  rw [aw1S] at c1
  rw [aw2S] at c2
  rw [aw3S] at c3
  simp only [pgC, List.map_cons, List.map_nil, intsL, decide_true] at p1 p2 p3 c1 c2 c3 c4
  generalize aw1.doms.map dmC = x1 at p1 c1
  generalize aw1.decls.map dclC = x2 at p1 c1
  generalize aw1.rules.map rulC = x3 at p1 c1
  generalize aw2.doms.map dmC = y1 at p2 c2
  generalize aw2.decls.map dclC = y2 at p2 c2
  generalize aw2.rules.map rulC = y3 at p2 c2
  generalize aw3.doms.map dmC = z1 at p3 c3
  generalize aw3.decls.map dclC = z2 at p3 c3
  generalize aw3.rules.map rulC = z3 at p3 c3
  refine G_enter Tryz.func6 rfl Tryz.ntmps6 rfl fun Q hQ hQe => ?_
  (repeat' (first | refine Ctl ?_ | ((with_reducible refine Kof.use hK ?_); clear hK hE K E) | ((with_reducible refine Eof.use hE ?_); (try clear hK hE K E)) | ((with_reducible refine W_cond (fun h => ?_) (fun h => ?_)) <;> (try (exfalso; first | assumption | omega))) | ((first | (with_reducible first | refine G_region fun K E hK hE => ?_ | refine call_ret can16 (p1 _) ?_ | refine call_ret can16 (p2 _) ?_ | refine call_ret can16 (p3 _) ?_ | refine call_ret can7 (c1 _) ?_ | refine call_ret can7 (c3 _) ?_ | refine call_ret can9 (c2 _) ?_ | refine call_ret can13 (c4 _ _) ?_ | refine call_ret can7 (Scheck_S _ (by assumption) _) ?_ | refine call_ret can9 (Sstr_S _ (by assumption) _) ?_ | refine call_ret can13 (SameInts_S _ _ _ _ (by assumption) (by assumption) _) ?_ | refine W_if ?_ | refine W_ifS ?_ | refine W_and ?_) | ((with_reducible refine W_gd (fun h => ?_) (fun h => ?_)) <;> (try (exfalso; first | assumption | omega)))) <;> (try simp (disch := first | assumption | omega) only [go_sem, seval, List.append_eq, *]))))
  all_goals (first | refine W_ret res6 hQ ?_ | refine W_norm res6 hQ ?_ | refine G_pan hQ ?_)
  all_goals (refine ⟨_, _, Wk.of_eq ?_, ?_, rfl, rfl⟩)
  all_goals first | rfl | (exact z_fg)
end Go.Proofs.YtdibndmkeipgbaaGreatDoor
