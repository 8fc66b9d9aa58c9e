/- What is proved: What package osierref15's block writes of statements. Conditions: what is written has at most 2^47 bytes; What package osierref15's Print hands back: the document's text of a source. Conditions: texts and lists of at most 2^47 parts. Conditions: those that stand in the statements. -/
import Derived.Test.YtilpdejbldllbaaZMd
set_option linter.unusedSimpArgs false
set_option linter.unusedVariables false
set_option maxRecDepth 100000
namespace Go.Proofs.Ytilpdejbldllbaa
open Go.RowKit

theorem bytesV_len {l : List UInt8} : (bytesV l).length = l.length := by simp [bytesV]
theorem bytesV_app {a b : List UInt8} : bytesV a ++ bytesV b = bytesV (a ++ b) := by simp [bytesV]
theorem bytesV_nil : ([] : List (List VV)) = bytesV [] := rfl
theorem bytesV_one (l : List UInt8) : ∀ y, y ∈ bytesV l → y.length = 1 := by
  intro y hy
  simp only [bytesV, List.mem_map] at hy
  obtain ⟨c, _, rfl⟩ := hy
  rfl
theorem joinTail_nil (l : List (List UInt8)) : Lib.joinTail [] l = l.flatten := by
  induction l with
  | nil => rfl
  | cons x l ih => simp [Lib.joinTail, ih]
theorem join_flat (l : List (List UInt8)) : Lib.join l [] = l.flatten := by
  cases l with
  | nil => rfl
  | cons x l => rw [Lib.join_cons, joinTail_nil]; rfl
/-- A statement's line is its text, set in and closed. -/
theorem spell_line {k : Int} {dt s c m : List UInt8} {ar : List (List UInt8)} {o t : List Stm} (d : Nat) (hk : k = 1 ∨ k = 2 ∨ k = 3 ∨ k = 4 ∨ k = 5 ∨ k = 6 ∨ k = 7) :
    Lib.repeatL [32, 32] d ++ spellB (.mk k dt s c m ar o t) ++ [59, 10] = stmB (.mk k dt s c m ar o t) d := by
  rcases hk with rfl | rfl | rfl | rfl | rfl | rfl | rfl
  all_goals simp [spellB, stmB, lineB, join_flat, argsB]

def RB (l : List Stm) (d : Nat) : Prop := ∀ (o0 : Own) (D : St) (bs : List UInt8) (o : Own) (n : Nat), OwnOk D o n → bs.length = n → n + (blkB l d).length ≤ 140737488355328 →
  SCalls Try.prog 38 [.lst (bytesV bs) o, .lst (stsC l) o0, .int .i64 d] (D.own o 5 1 n) (fun e u => ∃ q : Own, e = .ret (.lst (bytesV (bs ++ blkB l d)) q) ∧ u = D.own q 5 1 (bs ++ blkB l d).length ∧
    OwnOk D q (bs ++ blkB l d).length)

section
attribute [local go_sem] bytesV_len bytesV_app List.length_append
set_option maxHeartbeats 4000000 in
theorem rblock_S (f : Nat) : ∀ (l : List Stm) (dp : Nat), totL l = f → okA l dp = true → StmsOk l → ∀ d, d + f ≤ 100000 → RB l d := by
  induction f using Nat.strongRecOn with
  | _ f ih =>
    intro l dp hf hok hl d hd o0 D bs o n hO hbn hlen
    subst hbn
    have hll : l.length ≤ 100000 := by have := totL_len l; omega
    have HOK := Lib.hid hok
    clear hok
    refine G_enter Try.func38 rfl Try.ntmps38 rfl fun Q hQ hQe => ?_
    (repeat' (first
      | with_reducible first | refine L_seq ?_ | refine L_blk ?_ | refine L_skip ?_ | refine L_endblk ?_ | refine L_ret ?_ | refine L_exit ?_ | refine X_code ?_ | refine X_back ?_ | refine X_blk ?_ | refine X_past (by decide) ?_ | refine L_back ?_
      | ((with_reducible refine Kof.use hK ?_); clear hK hE K E)
      | ((with_reducible refine Eof.use hE ?_); (try clear hK hE K E))
      | ((with_reducible refine W_cond (fun h => ?_) (fun h => ?_)) <;> (try (exfalso; first | assumption | omega)))
      | ((with_reducible first | refine G_region fun K E hK hE => ?_ | refine call_ret can69 (Rpad_S _ (by first | assumption | omega) _) ?_ | refine W_if ?_ | refine W_ifS ?_ | refine W_and ?_) <;> (try simp (disch := first | assumption | omega) only [go_sem, seval, stsC_len, *]))
      | ((with_reducible refine W_fresh (fun b hb => ?_)); (repeat (obtain ⟨_, hb⟩ := hb)); (try simp (disch := first | assumption | omega) only [go_sem, seval, stsC_len, *]))
      | ((with_reducible refine W_app (fun o2 ho => ?_)); (try simp (disch := assumption) only [disown_set, disown_own, ownok_o, ownok_m, List.length_map, List.length_cons, List.length_nil, Nat.zero_add, stsC_len] at ho); (repeat (obtain ⟨_, ho⟩ := ho)); (try simp (disch := first | assumption | omega) only [go_sem, seval, stsC_len, *]))
      | ((with_reducible refine W_gd (fun h => ?_) (fun h => ?_)) <;> (try (exfalso; first | assumption | omega)) <;> (try simp (disch := first | assumption | omega) only [go_sem, seval, stsC_len, *]))))
    refine G_loop (fun m env s' => ∃ (i : Nat) (o1 : Own) (bs1 : List UInt8), i ≤ l.length ∧ m + i = l.length ∧ bs1 = bs ++ blkB (l.take i) d ∧ s' = D.own o1 5 1 bs1.length ∧
      OwnOk D o1 bs1.length ∧ env 0 = .lst (bytesV bs1) o1 ∧ env 1 = .lst (stsC l) o0 ∧ env 2 = .int .i64 d ∧ env 7 = .int .i64 i) l.length ?_ ?_
    · exact ⟨_, Fg.refl _, 0, o, bs, by omega, by omega, by simp [blkB], rfl, hO, by ((try simp (disch := first | assumption | omega) only [go_sem, seval, *]) <;> first | rfl | omega), by ((try simp (disch := first | assumption | omega) only [go_sem, seval, *]) <;> first | rfl | omega), by ((try simp (disch := first | assumption | omega) only [go_sem, seval, *]) <;> first | rfl | omega), by ((try simp (disch := first | assumption | omega) only [go_sem, seval, *]) <;> first | rfl | omega)⟩
    · clear hO
      rintro m env s' ⟨i, o1, bs1, hi, hm, hbs, rfl, hO, e0, e1, e2, e7⟩
      by_cases hlt : i < l.length
      · obtain ⟨x, hx⟩ := list_get hlt
        have hxo := hl.get hx
        have hsx := stsC_at hx
        have hmay := okS_may (okA_get HOK.out hx)
        have HB : bs1.length + (stmB x d).length ≤ 140737488355328 := by
          rw [blkB_at hx] at hlen
          rw [hbs]
          simp only [List.length_append] at hlen ⊢
          omega
        have HE : bs1 ++ stmB x d = bs ++ blkB (l.take (i + 1)) d := by rw [blkB_tk hx, hbs, List.append_assoc]
        have hxt := totL_at hx
        have hxk := okA_get HOK.out hx
        obtain ⟨k, dd, sr, c, mm, ar, oo, tt⟩ := x
        obtain ⟨hl1, hl2, hl3, hl4, har1, har2⟩ := may_len hmay
        simp only [StmOk, TxOk] at hxo
        have hpd := fun s => Rpad_S d (by omega) s
        have hpl : (Lib.repeatL [32, 32] d).length ≤ 300000 := by rw [repeatL_len]; simp only [List.length_cons, List.length_nil]; omega
        have hpe : Lib.repeatL [32, 32] d = Lib.repeatL [32, 32] d := rfl
        obtain ⟨p, hp⟩ : ∃ z, Lib.repeatL [32, 32] d = z := ⟨_, rfl⟩
        have HE0 := Lib.hid HE
        have HB0 := Lib.hid hbs
        have HX := Lib.hid hxt
        have HK := Lib.hid hxk
        have HM := Lib.hid hmay
        have HP := Lib.hid hp
        rw [hp] at hpd hpl
        clear HE hbs hx hmay hxt hxk hlen hl hpe hp
        have hk : k = 1 ∨ k = 2 ∨ k = 3 ∨ k = 4 ∨ k = 5 ∨ k = 6 ∨ k = 7 ∨ k = 8 ∨ k = 9 := by
          have := HK.out
          simp only [okS, mayB, Bool.and_eq_true] at this
          repeat (first | omega | (split at this <;> first | omega | skip))
          all_goals simp at this
        have hB : ∀ oo2, totL oo2 < totL l → okA oo2 (dp + 1) = true → StmsOk oo2 → RB oo2 (d + 1) := fun oo2 h1 h2 h3 =>
          ih (totL oo2) (by omega) oo2 (dp + 1) rfl h2 h3 (d + 1) (by omega)
        obtain ⟨⟨hd1, hd2, hd3, hd4⟩, _, ⟨ho1, ho2⟩, ⟨ht1, ht2⟩⟩ := hxo
        by_cases hk7 : k = 8 ∨ k = 9
        · have hoo : RB oo (d + 1) := hB oo (by
            have h1 := HX.out
            rcases hk7 with rfl | rfl <;> simp only [totS, seval, if_true, if_false] at h1 <;> omega) (by
            have h1 := HK.out
            simp only [okS, Bool.and_eq_true] at h1
            rcases hk7 with rfl | rfl <;> simp only [seval, if_true, if_false, Bool.and_eq_true] at h1 <;> first | exact h1.2.1.2 | exact h1.2.2) (by assumption)
          have htt : k = 8 → RB tt (d + 1) := fun h8 => hB tt (by
            have h1 := HX.out
            subst h8
            simp only [totS, seval, if_true, if_false] at h1; omega) (by
            have h1 := HK.out
            subst h8
            simp only [okS, Bool.and_eq_true, seval, if_true, if_false] at h1
            exact h1.2.2) (by assumption)
          clear hB hk har1 har2 hl1 hl2 hl3 hl4
          have w1 := fun o0 D bs o n => hoo o0 D bs o n
          have w2 := fun h o0 D bs o n => htt h o0 D bs o n
          clear hoo htt
          rcases hk7 with rfl | rfl
          · replace w2 := w2 rfl
            have hE : bs1 ++ (p ++ [105, 102, 32, 123, 10]) ++ blkB oo (d + 1) ++ (p ++ [125, 32, 101, 108, 115, 101, 32, 123, 10]) ++ blkB tt (d + 1) ++ (p ++ [125, 10]) = bs ++ blkB (l.take (i + 1)) d := by
              rw [← HE0.out, ← HP.out]; simp [stmB, lineB, join_flat]
            obtain ⟨L1, hL1⟩ : ∃ z, p ++ [105, 102, 32, 123, 10] = z := ⟨_, rfl⟩
            obtain ⟨L2, hL2⟩ : ∃ z, p ++ [125, 32, 101, 108, 115, 101, 32, 123, 10] = z := ⟨_, rfl⟩
            obtain ⟨L3, hL3⟩ : ∃ z, p ++ [125, 10] = z := ⟨_, rfl⟩
            rw [hL1, hL2, hL3] at hE
            have HB : bs1.length + L1.length + (blkB oo (d + 1)).length + L2.length + (blkB tt (d + 1)).length + L3.length ≤ 140737488355328 := by
              have h1 := HB0.out
              have h2 := congrArg List.length hE
              have h3 := congrArg List.length HE0.out
              simp only [List.length_append] at h2 h3
              omega
            have HE1 := Lib.hid hE
            have y1 := bytesV_one L1
            have y2 := bytesV_one L2
            have y3 := bytesV_one L3
            clear hE
            (repeat' (first
              | with_reducible first | refine L_seq ?_ | refine L_blk ?_ | refine L_skip ?_ | refine L_endblk ?_ | refine L_ret ?_ | refine L_exit ?_ | refine X_code ?_ | refine X_back ?_ | refine X_blk ?_ | refine X_past (by decide) ?_ | refine L_back ?_
              | ((with_reducible refine Kof.use hK ?_); clear hK hE K E)
              | ((with_reducible refine Eof.use hE ?_); (try clear hK hE K E))
              | ((with_reducible refine W_cond (fun h => ?_) (fun h => ?_)) <;> (try (exfalso; first | assumption | omega)))
              | ((with_reducible first | refine G_region fun K E hK hE => ?_ | refine call_ret can69 (hpd _) ?_ | refine call_ret can69 (Rpad_S _ (by first | assumption | omega) _) ?_ | refine W_if ?_ | refine W_ifS ?_ | refine W_and ?_) <;> (try simp (disch := first | assumption | omega) only [go_sem, seval, stsC_len, hsx, stC, strsV, strs_C, hL1, hL2, hL3, bytesV_len, List.length_append, *]))
              | ((with_reducible refine call_ex can38 (w1 _ _ _ _ _ (by assumption) (by simp only [List.length_append]) (by omega)) (fun a h => ?_)); (try simp only [List.length_append] at h); (try simp (disch := first | assumption | omega) only [go_sem, seval, stsC_len, hsx, stC, strsV, strs_C, hL1, hL2, hL3, bytesV_len, List.length_append, *]))
              | ((with_reducible refine call_ex can38 (w2 _ _ _ _ _ (by assumption) (by simp only [List.length_append]) (by omega)) (fun a h => ?_)); (try simp only [List.length_append] at h); (try simp (disch := first | assumption | omega) only [go_sem, seval, stsC_len, hsx, stC, strsV, strs_C, hL1, hL2, hL3, bytesV_len, List.length_append, *]))
              | ((with_reducible refine W_fresh (fun b hb => ?_)); (repeat (obtain ⟨_, hb⟩ := hb)); (try simp (disch := first | assumption | omega) only [go_sem, seval, stsC_len, hsx, stC, strsV, strs_C, hL1, hL2, hL3, bytesV_len, List.length_append, *]))
              | ((with_reducible refine W_app (fun o2 ho => ?_)); (try simp (disch := assumption) only [disown_set, disown_own, ownok_o, ownok_m, List.length_map, List.length_cons, List.length_nil, Nat.zero_add, stsC_len, hsx, stC, strsV, strs_C, hL1, hL2, hL3, bytesV_len, List.length_append] at ho); (repeat (obtain ⟨_, ho⟩ := ho)); (try simp (disch := first | assumption | omega) only [go_sem, seval, stsC_len, hsx, stC, strsV, strs_C, hL1, hL2, hL3, bytesV_len, List.length_append, *]))
              | ((with_reducible refine W_gd (fun h => ?_) (fun h => ?_)) <;> (try (exfalso; first | assumption | omega)) <;> (try simp (disch := first | assumption | omega) only [go_sem, seval, stsC_len, hsx, stC, strsV, strs_C, hL1, hL2, hL3, bytesV_len, List.length_append, *]))))
            all_goals exact ⟨_, (by ((try dsimp only); (repeat (first | exact Fg.refl _ | exact Fg.own (by assumption) | (refine Fg.set ?_ _ _) | (refine Fg.setA ?_ (by first | assumption | (simp (disch := assumption) only [own_rd, St.set, if_false, if_true, *]; done))) )); done) : Fg _ (D.own o2 5 1 _)), m - 1, by omega, i + 1, o2, _, by omega, by omega, HE1.out, by simp only [List.length_append], by simp only [List.length_append]; assumption, by ((try simp (disch := first | assumption | omega) only [go_sem, seval, *]) <;> first | rfl | omega), by ((try simp (disch := first | assumption | omega) only [go_sem, seval, *]) <;> first | rfl | omega), by ((try simp (disch := first | assumption | omega) only [go_sem, seval, *]) <;> first | rfl | omega), by ((try simp (disch := first | assumption | omega) only [go_sem, seval, *]) <;> first | rfl | omega)⟩
          · have hE : bs1 ++ (p ++ [108, 111, 111, 112, 32, 123, 10]) ++ blkB oo (d + 1) ++ (p ++ [125, 10]) = bs ++ blkB (l.take (i + 1)) d := by
              rw [← HE0.out, ← HP.out]; simp [stmB, lineB, join_flat]
            obtain ⟨L1, hL1⟩ : ∃ z, p ++ [108, 111, 111, 112, 32, 123, 10] = z := ⟨_, rfl⟩
            obtain ⟨L3, hL3⟩ : ∃ z, p ++ [125, 10] = z := ⟨_, rfl⟩
            rw [hL1, hL3] at hE
            have HB : bs1.length + L1.length + (blkB oo (d + 1)).length + L3.length ≤ 140737488355328 := by
              have h1 := HB0.out
              have h2 := congrArg List.length hE
              have h3 := congrArg List.length HE0.out
              simp only [List.length_append] at h2 h3
              omega
            have HE1 := Lib.hid hE
            have y1 := bytesV_one L1
            have y3 := bytesV_one L3
            clear hE w2
            (repeat' (first
              | with_reducible first | refine L_seq ?_ | refine L_blk ?_ | refine L_skip ?_ | refine L_endblk ?_ | refine L_ret ?_ | refine L_exit ?_ | refine X_code ?_ | refine X_back ?_ | refine X_blk ?_ | refine X_past (by decide) ?_ | refine L_back ?_
              | ((with_reducible refine Kof.use hK ?_); clear hK hE K E)
              | ((with_reducible refine Eof.use hE ?_); (try clear hK hE K E))
              | ((with_reducible refine W_cond (fun h => ?_) (fun h => ?_)) <;> (try (exfalso; first | assumption | omega)))
              | ((with_reducible first | refine G_region fun K E hK hE => ?_ | refine call_ret can69 (hpd _) ?_ | refine call_ret can69 (Rpad_S _ (by first | assumption | omega) _) ?_ | refine W_if ?_ | refine W_ifS ?_ | refine W_and ?_) <;> (try simp (disch := first | assumption | omega) only [go_sem, seval, stsC_len, hsx, stC, strsV, strs_C, hL1, hL3, bytesV_len, List.length_append, *]))
              | ((with_reducible refine call_ex can38 (w1 _ _ _ _ _ (by assumption) (by simp only [List.length_append]) (by omega)) (fun a h => ?_)); (try simp only [List.length_append] at h); (try simp (disch := first | assumption | omega) only [go_sem, seval, stsC_len, hsx, stC, strsV, strs_C, hL1, hL3, bytesV_len, List.length_append, *]))
              | ((with_reducible refine W_fresh (fun b hb => ?_)); (repeat (obtain ⟨_, hb⟩ := hb)); (try simp (disch := first | assumption | omega) only [go_sem, seval, stsC_len, hsx, stC, strsV, strs_C, hL1, hL3, bytesV_len, List.length_append, *]))
              | ((with_reducible refine W_app (fun o2 ho => ?_)); (try simp (disch := assumption) only [disown_set, disown_own, ownok_o, ownok_m, List.length_map, List.length_cons, List.length_nil, Nat.zero_add, stsC_len, hsx, stC, strsV, strs_C, hL1, hL3, bytesV_len, List.length_append] at ho); (repeat (obtain ⟨_, ho⟩ := ho)); (try simp (disch := first | assumption | omega) only [go_sem, seval, stsC_len, hsx, stC, strsV, strs_C, hL1, hL3, bytesV_len, List.length_append, *]))
              | ((with_reducible refine W_gd (fun h => ?_) (fun h => ?_)) <;> (try (exfalso; first | assumption | omega)) <;> (try simp (disch := first | assumption | omega) only [go_sem, seval, stsC_len, hsx, stC, strsV, strs_C, hL1, hL3, bytesV_len, List.length_append, *]))))
            all_goals exact ⟨_, (by ((try dsimp only); (repeat (first | exact Fg.refl _ | exact Fg.own (by assumption) | (refine Fg.set ?_ _ _) | (refine Fg.setA ?_ (by first | assumption | (simp (disch := assumption) only [own_rd, St.set, if_false, if_true, *]; done))) )); done) : Fg _ (D.own o2 5 1 _)), m - 1, by omega, i + 1, o2, _, by omega, by omega, HE1.out, by simp only [List.length_append], by simp only [List.length_append]; assumption, by ((try simp (disch := first | assumption | omega) only [go_sem, seval, *]) <;> first | rfl | omega), by ((try simp (disch := first | assumption | omega) only [go_sem, seval, *]) <;> first | rfl | omega), by ((try simp (disch := first | assumption | omega) only [go_sem, seval, *]) <;> first | rfl | omega), by ((try simp (disch := first | assumption | omega) only [go_sem, seval, *]) <;> first | rfl | omega)⟩
        · have hk1 : k = 1 ∨ k = 2 ∨ k = 3 ∨ k = 4 ∨ k = 5 ∨ k = 6 ∨ k = 7 := by omega
          have hE : bs1 ++ (p ++ spellB (.mk k dd sr c mm ar oo tt) ++ [59, 10]) = bs ++ blkB (l.take (i + 1)) d := by
            rw [← HE0.out, ← HP.out, spell_line d hk1]
          have hsp := fun s => Rspell_S k dd sr c mm ar oo tt hl1 hl2 hl3 hl4 har1 har2 s
          have hspl : (spellB (.mk k dd sr c mm ar oo tt)).length ≤ 140737488355328 := by
            have h2 := congrArg List.length hE
            have h3 := congrArg List.length HE0.out
            simp only [List.length_append] at h2 h3
            omega
          obtain ⟨sp, hsq⟩ : ∃ z, spellB (.mk k dd sr c mm ar oo tt) = z := ⟨_, rfl⟩
          rw [hsq] at hE hsp hspl
          obtain ⟨L1, hL1⟩ : ∃ z, p ++ sp ++ [59, 10] = z := ⟨_, rfl⟩
          rw [hL1] at hE
          have HB : bs1.length + L1.length ≤ 140737488355328 := by
            have h2 := congrArg List.length hE
            have h3 := congrArg List.length HE0.out
            simp only [List.length_append] at h2 h3
            omega
          have HE1 := Lib.hid hE
          have y1 := bytesV_one L1
          have hk8 : ¬ k = 8 := by omega
          have hk9 : ¬ k = 9 := by omega
          simp only [stC, strsV, strs_C] at hsp
          clear hE hB hk hsq har1 har2 hk1 hk7 hl1 hl2 hl3 hl4
          (repeat' (first
            | with_reducible first | refine L_seq ?_ | refine L_blk ?_ | refine L_skip ?_ | refine L_endblk ?_ | refine L_ret ?_ | refine L_exit ?_ | refine X_code ?_ | refine X_back ?_ | refine X_blk ?_ | refine X_past (by decide) ?_ | refine L_back ?_
            | ((with_reducible refine Kof.use hK ?_); clear hK hE K E)
            | ((with_reducible refine Eof.use hE ?_); (try clear hK hE K E))
            | ((with_reducible refine W_cond (fun h => ?_) (fun h => ?_)) <;> (try (exfalso; first | assumption | omega)))
            | ((with_reducible first | refine G_region fun K E hK hE => ?_ | refine call_ret can69 (hpd _) ?_ | refine call_ret can70 (hsp _) ?_ | refine call_ret can69 (Rpad_S _ (by first | assumption | omega) _) ?_ | refine W_if ?_ | refine W_ifS ?_ | refine W_and ?_) <;> (try simp (disch := first | assumption | omega) only [go_sem, seval, stsC_len, hsx, stC, strsV, strs_C, hL1, bytesV_len, List.length_append, *]))
            | ((with_reducible refine W_fresh (fun b hb => ?_)); (repeat (obtain ⟨_, hb⟩ := hb)); (try simp (disch := first | assumption | omega) only [go_sem, seval, stsC_len, hsx, stC, strsV, strs_C, hL1, bytesV_len, List.length_append, *]))
            | ((with_reducible refine W_app (fun o2 ho => ?_)); (try simp (disch := assumption) only [disown_set, disown_own, ownok_o, ownok_m, List.length_map, List.length_cons, List.length_nil, Nat.zero_add, stsC_len, hsx, stC, strsV, strs_C, hL1, bytesV_len, List.length_append] at ho); (repeat (obtain ⟨_, ho⟩ := ho)); (try simp (disch := first | assumption | omega) only [go_sem, seval, stsC_len, hsx, stC, strsV, strs_C, hL1, bytesV_len, List.length_append, *]))
            | ((with_reducible refine W_gd (fun h => ?_) (fun h => ?_)) <;> (try (exfalso; first | assumption | omega)) <;> (try simp (disch := first | assumption | omega) only [go_sem, seval, stsC_len, hsx, stC, strsV, strs_C, hL1, bytesV_len, List.length_append, *]))))
          all_goals exact ⟨_, (by ((try dsimp only); (repeat (first | exact Fg.refl _ | exact Fg.own (by assumption) | (refine Fg.set ?_ _ _) | (refine Fg.setA ?_ (by first | assumption | (simp (disch := assumption) only [own_rd, St.set, if_false, if_true, *]; done))) )); done) : Fg _ (D.own o2 5 1 _)), m - 1, by omega, i + 1, o2, _, by omega, by omega, HE1.out, by simp only [List.length_append], by simp only [List.length_append]; assumption, by ((try simp (disch := first | assumption | omega) only [go_sem, seval, *]) <;> first | rfl | omega), by ((try simp (disch := first | assumption | omega) only [go_sem, seval, *]) <;> first | rfl | omega), by ((try simp (disch := first | assumption | omega) only [go_sem, seval, *]) <;> first | rfl | omega), by ((try simp (disch := first | assumption | omega) only [go_sem, seval, *]) <;> first | rfl | omega)⟩
      · have hiL : i = l.length := by omega
        have htk : l.take i = l := by rw [hiL]; exact List.take_length
        rw [htk] at hbs
        subst hbs
        (repeat' (first
          | with_reducible first | refine L_seq ?_ | refine L_blk ?_ | refine L_skip ?_ | refine L_endblk ?_ | refine L_ret ?_ | refine L_exit ?_ | refine X_code ?_ | refine X_back ?_ | refine X_blk ?_ | refine X_past (by decide) ?_ | refine L_back ?_
          | ((with_reducible refine Kof.use hK ?_); clear hK hE K E)
          | ((with_reducible refine Eof.use hE ?_); (try clear hK hE K E))
          | ((with_reducible refine W_cond (fun h => ?_) (fun h => ?_)) <;> (try (exfalso; first | assumption | omega)))
          | ((with_reducible first | refine G_region fun K E hK hE => ?_ | refine call_ret can69 (Rpad_S _ (by first | assumption | omega) _) ?_ | refine W_if ?_ | refine W_ifS ?_ | refine W_and ?_) <;> (try simp (disch := first | assumption | omega) only [go_sem, seval, stsC_len, *]))
          | ((with_reducible refine W_fresh (fun b hb => ?_)); (repeat (obtain ⟨_, hb⟩ := hb)); (try simp (disch := first | assumption | omega) only [go_sem, seval, stsC_len, *]))
          | ((with_reducible refine W_app (fun o2 ho => ?_)); (try simp (disch := assumption) only [disown_set, disown_own, ownok_o, ownok_m, List.length_map, List.length_cons, List.length_nil, Nat.zero_add, stsC_len] at ho); (repeat (obtain ⟨_, ho⟩ := ho)); (try simp (disch := first | assumption | omega) only [go_sem, seval, stsC_len, *]))
          | ((with_reducible refine W_gd (fun h => ?_) (fun h => ?_)) <;> (try (exfalso; first | assumption | omega)) <;> (try simp (disch := first | assumption | omega) only [go_sem, seval, stsC_len, *]))))
        all_goals (first | refine G_ret hQ (by simp (disch := first | assumption | omega) only [res38, go_sem, seval, *] <;> rfl) ?_ | refine G_norm hQ (by simp (disch := first | assumption | omega) only [res38, go_sem, seval, *] <;> rfl) ?_ | refine G_pan hQ ?_)
        all_goals refine ⟨_, _, Wk.refl _, ?_, o1, rfl, rfl, hO⟩
        rw [List.length_append]; exact Fg.refl _
end
end Go.Proofs.Ytilpdejbldllbaa
set_option maxRecDepth 100000
namespace Go.Proofs.Ytilpdejbldllbaa
open Go.RowKit

theorem mthsW {ms : List Mth} (h : ∀ m, m ∈ ms → MthW m) {j : Nat} {m : Mth} (hm : ms[j]? = some m) : MthW m := h m (List.mem_of_getElem? hm)
theorem RBc (l : List Stm) (d : Nat) (h : RB l d) (t : St) (o0 : Own) (bs : List UInt8) (o : Own) (n : Nat) (hO : Owned t o 5 1 n) (hn : bs.length = n) (hl : n + (blkB l d).length ≤ 140737488355328) :
    SCalls Try.prog 38 [.lst (bytesV bs) o, .lst (stsC l) o0, .int .i64 d] t (fun e u => ∃ q : Own, e = .ret (.lst (bytesV (bs ++ blkB l d)) q) ∧ u = (t.disown o).own q 5 1 (bs ++ blkB l d).length ∧
      OwnOk (t.disown o) q (bs ++ blkB l d).length) := by
  have := h o0 (t.disown o) bs o n (ownok_disown hO) hn hl
  rw [own_disown hO] at this
  exact this
section
attribute [local go_sem] bytesV_len bytesV_app List.length_append
set_option maxHeartbeats 8000000 in
theorem RPrint_S (x : List Cls) (hx : SrcOk x) (s : St) : SRet Try.prog 16 [srcV x] s (printV x) s := by
  have hck := RMay_S x hx
  simp only [srcV] at hck
  refine G_enter Try.func16 rfl Try.ntmps16 rfl fun Q hQ hQe => ?_
  cases hc : checkB x with
  | false =>
    have hres : printV x = .tup [.str [], .int .i64 1] := by simp [printV, printS, hc]
    rw [hc] at hck
    (repeat' (first
      | with_reducible first | refine L_seq ?_ | refine L_blk ?_ | refine L_skip ?_ | refine L_endblk ?_ | refine L_ret ?_ | refine L_exit ?_ | refine X_code ?_ | refine X_back ?_ | refine X_blk ?_ | refine X_past (by decide) ?_ | refine L_back ?_
      | ((with_reducible refine Kof.use hK ?_); clear hK hE K E)
      | ((with_reducible refine Eof.use hE ?_); (try clear hK hE K E))
      | ((with_reducible refine Kof.use hKh ?_); clear hKh Kh)
      | ((with_reducible refine Kof.use hKb (P_next ?_)); clear hKb Kb)
      | with_reducible refine G_plan 19 [([0, 1, 2, 3, 4, 5, 6], 7, [[0, 1, 2, 3, 4]]), ([8, 9], 10, [[], []])] [11] hQe fun K E hK hE => ?_
      | ((with_reducible refine W_cond (fun h => ?_) (fun h => ?_)) <;> (try (exfalso; first | assumption | omega)))
      | ((with_reducible first | refine G_region fun K E hK hE => ?_ | refine call_ret can36 (hck _) ?_ | refine call_ret can36 (RMay_S _ (by assumption) _) ?_ | refine call_ret can37 (Rjoin_S _ _ (by assumption) (by assumption) _) ?_ | refine call_ret can23 (Rsigns_S _ (by first | assumption | omega) _) ?_ | refine W_if ?_ | refine W_ifS ?_ | refine P_heads fun Kh hKh => ?_ | refine P_fin fun Kh hKh => ?_ | refine P_each fun Kb hKb => ?_ | refine W_and ?_) <;> (try simp (disch := first | assumption | omega) only [go_sem, seval, List.length_map, srcV, *]))
      | ((with_reducible refine W_fresh (fun b hb => ?_)); (repeat (obtain ⟨_, hb⟩ := hb)); (try simp (disch := first | assumption | omega) only [go_sem, seval, List.length_map, srcV, *]))
      | ((with_reducible refine W_app (fun o2 ho => ?_)); (try simp (disch := assumption) only [disown_set, disown_own, ownok_o, ownok_m, List.length_map, List.length_cons, List.length_nil, Nat.zero_add, List.length_map, srcV] at ho); (repeat (obtain ⟨_, ho⟩ := ho)); (try simp (disch := first | assumption | omega) only [go_sem, seval, List.length_map, srcV, *]))
      | ((with_reducible refine W_gd (fun h => ?_) (fun h => ?_)) <;> (try (exfalso; first | assumption | omega)) <;> (try simp (disch := first | assumption | omega) only [go_sem, seval, List.length_map, srcV, *]))))
    all_goals (first | refine G_ret hQ (by simp (disch := first | assumption | omega) only [res16, go_sem, seval, *] <;> rfl) ?_ | refine G_norm hQ (by simp (disch := first | assumption | omega) only [res16, go_sem, seval, *] <;> rfl) ?_ | refine G_pan hQ ?_)
    all_goals (refine ⟨_, _, Wk.of_eq ?_, ?_, rfl, rfl⟩)
    · rw [hres]
    · ((try dsimp only); (repeat (first | exact Fg.refl _ | exact Fg.own (by assumption) | (refine Fg.set ?_ _ _) | (refine Fg.setA ?_ (by first | assumption | (simp (disch := assumption) only [own_rd, St.set, if_false, if_true, *]; done))) )); done)
  | true =>
    obtain ⟨h32, hpl, hcs⟩ := check_parts hc hx
    have hgl : (prtB x).length ≤ 9223372036854775000 := by omega
    have hsig := fun s => Rsigns_S (prtB x) hgl s
    have HC := Lib.hid hc
    rw [hc] at hck
    clear hc
    (repeat' (first
      | with_reducible first | refine L_seq ?_ | refine L_blk ?_ | refine L_skip ?_ | refine L_endblk ?_ | refine L_ret ?_ | refine L_exit ?_ | refine X_code ?_ | refine X_back ?_ | refine X_blk ?_ | refine X_past (by decide) ?_ | refine L_back ?_
      | ((with_reducible refine Kof.use hK ?_); clear hK hE K E)
      | ((with_reducible refine Eof.use hE ?_); (try clear hK hE K E))
      | ((with_reducible refine Kof.use hKh ?_); clear hKh Kh)
      | ((with_reducible refine Kof.use hKb (P_next ?_)); clear hKb Kb)
      | with_reducible refine G_plan 19 [([0, 1, 2, 3, 4, 5, 6], 7, [[0, 1, 2, 3, 4]]), ([8, 9], 10, [[], []])] [11] hQe fun K E hK hE => ?_
      | ((with_reducible refine W_cond (fun h => ?_) (fun h => ?_)) <;> (try (exfalso; first | assumption | omega)))
      | ((with_reducible first | refine G_region fun K E hK hE => ?_ | refine call_ret can36 (hck _) ?_ | refine call_ret can36 (RMay_S _ (by assumption) _) ?_ | refine call_ret can37 (Rjoin_S _ _ (by assumption) (by assumption) _) ?_ | refine call_ret can23 (Rsigns_S _ (by first | assumption | omega) _) ?_ | refine W_if ?_ | refine W_ifS ?_ | refine P_heads fun Kh hKh => ?_ | refine P_fin fun Kh hKh => ?_ | refine P_each fun Kb hKb => ?_ | refine W_and ?_) <;> (try simp (disch := first | assumption | omega) only [go_sem, seval, List.length_map, srcV, *]))
      | ((with_reducible refine W_fresh (fun b hb => ?_)); (repeat (obtain ⟨_, hb⟩ := hb)); (try simp (disch := first | assumption | omega) only [go_sem, seval, List.length_map, srcV, *]))
      | ((with_reducible refine W_app (fun o2 ho => ?_)); (try simp (disch := assumption) only [disown_set, disown_own, ownok_o, ownok_m, List.length_map, List.length_cons, List.length_nil, Nat.zero_add, List.length_map, srcV] at ho); (repeat (obtain ⟨_, ho⟩ := ho)); (try simp (disch := first | assumption | omega) only [go_sem, seval, List.length_map, srcV, *]))
      | ((with_reducible refine W_gd (fun h => ?_) (fun h => ?_)) <;> (try (exfalso; first | assumption | omega)) <;> (try simp (disch := first | assumption | omega) only [go_sem, seval, List.length_map, srcV, *]))))
    obtain ⟨bx, hbx⟩ : ∃ z, z = b := ⟨_, rfl⟩
    subst hbx
    refine G_loop (fun m env s' => ∃ (i : Nat) (o1 : Own) (bs1 : List UInt8), i ≤ x.length ∧ m + i = x.length ∧ bs1 = prtB (x.take i) ∧ s' = (s.own o1 5 1 bs1.length).set bx (.obj 25 [.lst (x.map clsC) .no]) ∧
      OwnOk s o1 bs1.length ∧ NotOwn o1 bx ∧ env 1 = .ptr bx 0 ∧ env 4 = .lst (bytesV bs1) o1 ∧ env 5 = .int .i64 i) x.length ?_ ?_
    · exact ⟨(s.own .full 5 1 0).set bx (.obj 25 [.lst (x.map clsC) .no]), by ((try dsimp only); (repeat (first | exact Fg.refl _ | exact Fg.own (by assumption) | (refine Fg.set ?_ _ _) | (refine Fg.setA ?_ (by first | assumption | (simp (disch := assumption) only [own_rd, St.set, if_false, if_true, *]; done))) )); done), 0, .full, [], by omega, by omega, rfl, rfl, rfl, trivial, by ((try simp (disch := first | assumption | omega) only [go_sem, seval, *]) <;> first | rfl | omega), by ((try simp (disch := first | assumption | omega) only [go_sem, seval, *]) <;> first | rfl | omega), by ((try simp (disch := first | assumption | omega) only [go_sem, seval, *]) <;> first | rfl | omega)⟩
    · rintro m env s' ⟨i, o1, bs1, hi, hm2, hbs, rfl, hO, hn, e1, e4, e5⟩
      by_cases hlt : i < x.length
      · obtain ⟨c, hcx⟩ := list_get hlt
        have hsx := clsC_at hcx
        obtain ⟨hc1, hc2, hc3⟩ := hcs c (List.mem_of_getElem? hcx)
        have hc4 := (hx.2 c (List.mem_of_getElem? hcx)).2.1
        have HB : bs1.length + (clsB c).length ≤ 140737488355328 := by
          rw [prtB_at hcx] at hpl
          rw [hbs]
          simp only [List.length_append] at hpl ⊢
          omega
        have HE : bs1 ++ clsB c = prtB (x.take (i + 1)) := by rw [prtB_tk hcx, hbs]
        have HE0 := Lib.hid HE
        clear HE hbs hcx hck hsig hcs hgl
        obtain ⟨nm, pa, ms⟩ := c
        simp only at hc1 hc2 hc3 hc4
        simp only [clsC] at hsx
        obtain ⟨LC, hLC⟩ : ∃ z, [99, 108, 97, 115, 115, 32] ++ nm ++ parB pa ++ [32, 123, 10] = z := ⟨_, rfl⟩
        have HE2 : bs1 ++ LC ++ mthsB ms 1 ++ [125, 10] = prtB (x.take (i + 1)) := by
          rw [← HE0.out, ← hLC]; simp [clsB, lineB, join_flat, Lib.repeatL]
        have HB2 : bs1.length + LC.length + (mthsB ms 1).length + 2 ≤ 140737488355328 := by
          have h2 := congrArg List.length HE2
          have h3 := congrArg List.length HE0.out
          simp only [List.length_append, List.length_cons, List.length_nil] at h2 h3
          omega
        have HEL := Lib.hid HE2
        have yC := bytesV_one LC
        have y4 := bytesV_one [125, 10]
        have hpp : pa = [] ∨ ¬ pa = [] := Classical.em _
        obtain ⟨pv, hpv⟩ : ∃ z, z = pa := ⟨_, rfl⟩
        have hpv := Lib.hid hpv
        clear HE2 HB
        rcases hpp with rfl | hpp
        all_goals simp only [parB, if_true, if_false, List.append_nil, ← List.append_assoc, *] at hLC
        all_goals simp only [List.cons_append, List.nil_append] at hLC
        all_goals (repeat' (first
   | with_reducible first | refine L_seq ?_ | refine L_blk ?_ | refine L_skip ?_ | refine L_endblk ?_ | refine L_ret ?_ | refine L_exit ?_ | refine X_code ?_ | refine X_back ?_ | refine X_blk ?_ | refine X_past (by decide) ?_ | refine L_back ?_
   | ((with_reducible refine Kof.use hK ?_); clear hK hE K E)
   | ((with_reducible refine Eof.use hE ?_); (try clear hK hE K E))
   | ((with_reducible refine Kof.use hKh ?_); clear hKh Kh)
   | ((with_reducible refine Kof.use hKb (P_next ?_)); clear hKb Kb)
   | with_reducible refine G_plan 19 [([0, 1, 2, 3, 4, 5, 6], 7, [[0, 1, 2, 3, 4]]), ([8, 9], 10, [[], []])] [11] hQe fun K E hK hE => ?_
   | ((with_reducible refine W_cond (fun h => ?_) (fun h => ?_)) <;> (try (exfalso; first | assumption | omega)))
   | ((with_reducible first | refine G_region fun K E hK hE => ?_ | refine call_ret can36 (RMay_S _ (by assumption) _) ?_ | refine call_ret can37 (Rjoin_S _ _ (by assumption) (by assumption) _) ?_ | refine call_ret can23 (Rsigns_S _ (by first | assumption | omega) _) ?_ | refine W_if ?_ | refine W_ifS ?_ | refine P_heads fun Kh hKh => ?_ | refine P_fin fun Kh hKh => ?_ | refine P_each fun Kb hKb => ?_ | refine W_and ?_) <;> (try simp (disch := first | assumption | omega) only [go_sem, seval, List.length_map, hsx, hLC, bytesV_len, List.length_append, *]))
   | ((with_reducible refine W_fresh (fun b hb => ?_)); (repeat (obtain ⟨_, hb⟩ := hb)); (try ((try simp only [own_fr] at hb); (repeat (obtain ⟨_, hb⟩ := hb)))); (try simp (disch := first | assumption | omega) only [go_sem, seval, List.length_map, hsx, hLC, bytesV_len, List.length_append, *]))
   | ((with_reducible refine W_app (fun o2 ho => ?_)); (try simp (disch := assumption) only [disown_set, disown_own, ownok_o, ownok_m, List.length_map, List.length_cons, List.length_nil, Nat.zero_add, List.length_map, hsx, hLC, bytesV_len, List.length_append] at ho); (repeat (obtain ⟨_, ho⟩ := ho)); (try simp (disch := first | assumption | omega) only [go_sem, seval, List.length_map, hsx, hLC, bytesV_len, List.length_append, *]))
   | ((with_reducible refine W_gd (fun h => ?_) (fun h => ?_)) <;> (try (exfalso; first | assumption | omega)) <;> (try simp (disch := first | assumption | omega) only [go_sem, seval, List.length_map, hsx, hLC, bytesV_len, List.length_append, *]))))
        all_goals
          obtain ⟨bc, hbc⟩ : ∃ z, z = b := ⟨_, rfl⟩
          subst hbc
          refine G_loop (fun m2 env s' => ∃ (j : Nat) (o2 : Own) (bs2 : List UInt8), j ≤ ms.length ∧ m2 + j = ms.length ∧ bs2 = bs1 ++ LC ++ mthsB (ms.take j) 1 ∧
            s' = ((s.own o2 5 1 bs2.length).set bx (.obj 25 [.lst (x.map clsC) .no])).set bc (.obj 54 [.str nm, .str pv, .lst (ms.map mthC) .no]) ∧
            OwnOk s o2 bs2.length ∧ NotOwn o2 bx ∧ NotOwn o2 bc ∧ env 1 = .ptr bx 0 ∧ env 4 = .lst (bytesV bs2) o2 ∧ env 5 = .int .i64 i ∧ env 6 = .ptr bc 0 ∧ env 8 = .int .i64 j) ms.length ?_ ?_
          · exact ⟨_, by ((try dsimp only); (repeat (first | exact Fg.refl _ | exact Fg.own (by assumption) | (refine Fg.set ?_ _ _) | (refine Fg.setA ?_ (by first | assumption | (simp (disch := assumption) only [own_rd, St.set, if_false, if_true, *]; done))) )); done), 0, o2, bs1 ++ LC, by omega, by omega, by simp [mthsB], (by rw [hpv.out, List.length_append]), by rw [List.length_append]; assumption, by assumption, by assumption, by ((try simp (disch := first | assumption | omega) only [go_sem, seval, *]) <;> first | rfl | omega), by ((try simp (disch := first | assumption | omega) only [go_sem, seval, *]) <;> first | rfl | omega), by ((try simp (disch := first | assumption | omega) only [go_sem, seval, *]) <;> first | rfl | omega), by ((try simp (disch := first | assumption | omega) only [go_sem, seval, *]) <;> first | rfl | omega), by ((try simp (disch := first | assumption | omega) only [go_sem, seval, *]) <;> first | rfl | omega)⟩
          · clear e1 e4 e5 hO hn ho env
            rintro m2 env s' ⟨j, o3, bs2, hj, hm3, hbs2, rfl, hO, hn, hno, e1, e4, e5, e6, e8⟩
            by_cases hlt2 : j < ms.length
            · obtain ⟨mt, hmt⟩ := list_get hlt2
              have hW := mthsW hc3 hmt
              have hsm := mthC_at hmt
              have HE : bs2 ++ mthB mt 1 = bs1 ++ LC ++ mthsB (ms.take (j + 1)) 1 := by rw [mthsB_tk hmt, hbs2, List.append_assoc]
              have HB3 : bs2.length + (mthB mt 1).length ≤ 140737488355328 := by
                rw [mthsB_at hmt] at HB2
                rw [hbs2]
                simp only [List.length_append] at HB2 ⊢
                omega
              have HE3 := Lib.hid HE
              clear hmt HE hbs2
              obtain ⟨st, mn, ps, bd⟩ := mt
              obtain ⟨hkk, htt, hst, hp8, hp32⟩ := hW
              simp only at hkk htt hst hp8 hp32
              have hj2 := fun s => Rjoin_S ps .no hp8 hp32 s
              have hJl := args_len hp8 hp32 [44, 32] rfl
              have w1 := fun t o0 bs o h1 h2 => RBc bd 2 (rblock_S _ bd 1 rfl hkk hst 2 (by omega)) t o0 bs o bs.length h1 rfl h2
              simp only [Int.cast_ofNat_Int] at w1
              obtain ⟨J, hJ⟩ : ∃ z, 40 :: (Lib.join ps [44, 32] ++ [41]) = z := ⟨_, rfl⟩
              have hJl2 : J.length ≤ 300 := by rw [← hJ]; simp only [List.length_cons, List.length_append, List.length_nil]; omega
              rw [hJ] at hj2
              obtain ⟨L1, hL1⟩ : ∃ z, [32, 32] ++ howB st ++ mn ++ J ++ [32, 123, 10] = z := ⟨_, rfl⟩
              have HE4 : bs2 ++ L1 ++ blkB bd 2 ++ [32, 32, 125, 10] = bs1 ++ LC ++ mthsB (ms.take (j + 1)) 1 := by
                rw [← HE3.out, ← hL1, ← hJ]; simp [mthB, lineB, join_flat, Lib.repeatL]
              have HB4 : bs2.length + L1.length + (blkB bd 2).length + 4 ≤ 140737488355328 := by
                have h2 := congrArg List.length HE4
                have h3 := congrArg List.length HE3.out
                simp only [List.length_append, List.length_cons, List.length_nil] at h2 h3
                omega
              have HE5 := Lib.hid HE4
              have y1 := bytesV_one L1
              obtain ⟨L2, hL2⟩ : ∃ z, ([32, 32, 125, 10] : List UInt8) = z := ⟨_, rfl⟩
              have hL2l : L2.length = 4 := by rw [← hL2]; rfl
              rw [hL2] at HE5
              have y2 := bytesV_one L2
              have HJ := Lib.hid hJ
              have hmn : mn.length ≤ 140737488355328 := by
                have h2 := congrArg List.length hL1
                simp only [List.length_append, List.length_cons, List.length_nil] at h2
                omega
              clear HE4 HB3 hJ hkk hst hp32 hJl
              cases st
              all_goals simp only [howB, if_true, if_false, Bool.false_eq_true, List.append_nil] at hL1
              all_goals simp only [List.cons_append, List.nil_append] at hL1
              all_goals (repeat' (first
   | with_reducible first | refine L_seq ?_ | refine L_blk ?_ | refine L_skip ?_ | refine L_endblk ?_ | refine L_ret ?_ | refine L_exit ?_ | refine X_code ?_ | refine X_back ?_ | refine X_blk ?_ | refine X_past (by decide) ?_ | refine L_back ?_
   | ((with_reducible refine Kof.use hK ?_); clear hK hE K E)
   | ((with_reducible refine Eof.use hE ?_); (try clear hK hE K E))
   | ((with_reducible refine Kof.use hKh ?_); clear hKh Kh)
   | ((with_reducible refine Kof.use hKb (P_next ?_)); clear hKb Kb)
   | with_reducible refine G_plan 19 [([0, 1, 2, 3, 4, 5, 6], 7, [[0, 1, 2, 3, 4]]), ([8, 9], 10, [[], []])] [11] hQe fun K E hK hE => ?_
   | ((with_reducible refine W_cond (fun h => ?_) (fun h => ?_)) <;> (try (exfalso; first | assumption | omega)))
   | ((with_reducible first | refine G_region fun K E hK hE => ?_ | refine call_ret can37 (hj2 _) ?_ | refine call_ret can36 (RMay_S _ (by assumption) _) ?_ | refine call_ret can37 (Rjoin_S _ _ (by assumption) (by assumption) _) ?_ | refine call_ret can23 (Rsigns_S _ (by first | assumption | omega) _) ?_ | refine W_if ?_ | refine W_ifS ?_ | refine P_heads fun Kh hKh => ?_ | refine P_fin fun Kh hKh => ?_ | refine P_each fun Kb hKb => ?_ | refine W_and ?_) <;> (try simp (disch := first | assumption | omega) only [go_sem, seval, List.length_map, hsm, mthC, strsV, strs_C, stsV, hL1, hL2, bytesV_len, List.length_append, *]))
   | ((with_reducible refine call_ex can38 (w1 _ _ _ _ (by simp (disch := assumption) only [owned_set, owned_own, List.length_append]) (by simp only [List.length_append]; omega)) (fun a h => ?_)); ((try simp (disch := assumption) only [disown_set, disown_own, ownok_o, List.length_append] at h); (repeat (obtain ⟨_, h⟩ := h))); (try simp (disch := first | assumption | omega) only [go_sem, seval, List.length_map, hsm, mthC, strsV, strs_C, stsV, hL1, hL2, bytesV_len, List.length_append, *]))
   | ((with_reducible refine W_fresh (fun b hb => ?_)); (repeat (obtain ⟨_, hb⟩ := hb)); (try ((try simp only [own_fr] at hb); (repeat (obtain ⟨_, hb⟩ := hb)))); (try simp (disch := first | assumption | omega) only [go_sem, seval, List.length_map, hsm, mthC, strsV, strs_C, stsV, hL1, hL2, bytesV_len, List.length_append, *]))
   | ((with_reducible refine W_app (fun o2 ho => ?_)); (try simp (disch := assumption) only [disown_set, disown_own, ownok_o, ownok_m, List.length_map, List.length_cons, List.length_nil, Nat.zero_add, List.length_map, hsm, mthC, strsV, strs_C, stsV, hL1, hL2, bytesV_len, List.length_append] at ho); (repeat (obtain ⟨_, ho⟩ := ho)); (try simp (disch := first | assumption | omega) only [go_sem, seval, List.length_map, hsm, mthC, strsV, strs_C, stsV, hL1, hL2, bytesV_len, List.length_append, *]))
   | ((with_reducible refine W_gd (fun h => ?_) (fun h => ?_)) <;> (try (exfalso; first | assumption | omega)) <;> (try simp (disch := first | assumption | omega) only [go_sem, seval, List.length_map, hsm, mthC, strsV, strs_C, stsV, hL1, hL2, bytesV_len, List.length_append, *]))))
              all_goals exact ⟨_, (by ((try dsimp only); (repeat (first | exact Fg.refl _ | exact Fg.own (by assumption) | (refine Fg.set ?_ _ _) | (refine Fg.setA ?_ (by first | assumption | (simp (disch := assumption) only [own_rd, St.set, if_false, if_true, *]; done))) )); done) : Fg _ (((s.own o2 5 1 _).set bx _).set bc _)), m2 - 1, by omega, j + 1, o2, _, by omega, by omega, HE5.out, (by rw [hpv.out]; simp only [List.length_append, hL2l]), by simp only [List.length_append]; assumption, by assumption, by assumption, by ((try simp (disch := first | assumption | omega) only [go_sem, seval, *]) <;> first | rfl | omega), by ((try simp (disch := first | assumption | omega) only [go_sem, seval, *]) <;> first | rfl | omega), by ((try simp (disch := first | assumption | omega) only [go_sem, seval, *]) <;> first | rfl | omega), by ((try simp (disch := first | assumption | omega) only [go_sem, seval, *]) <;> first | rfl | omega), by ((try simp (disch := first | assumption | omega) only [go_sem, seval, *]) <;> first | rfl | omega)⟩
            · have hjL : j = ms.length := by omega
              have htk : ms.take j = ms := by rw [hjL]; exact List.take_length
              rw [htk] at hbs2
              have hE := HEL.out
              rw [← hbs2] at hE
              have HB5 : bs2.length + 2 ≤ 140737488355328 := by
                rw [hbs2]; simp only [List.length_append]; omega
              obtain ⟨L2, hL2⟩ : ∃ z, ([125, 10] : List UInt8) = z := ⟨_, rfl⟩
              have hL2l : L2.length = 2 := by rw [← hL2]; rfl
              rw [hL2] at hE
              have HE5 := Lib.hid hE
              have y2 := bytesV_one L2
              clear hE hbs2 htk
              (repeat' (first
                | with_reducible first | refine L_seq ?_ | refine L_blk ?_ | refine L_skip ?_ | refine L_endblk ?_ | refine L_ret ?_ | refine L_exit ?_ | refine X_code ?_ | refine X_back ?_ | refine X_blk ?_ | refine X_past (by decide) ?_ | refine L_back ?_
                | ((with_reducible refine Kof.use hK ?_); clear hK hE K E)
                | ((with_reducible refine Eof.use hE ?_); (try clear hK hE K E))
                | ((with_reducible refine Kof.use hKh ?_); clear hKh Kh)
                | ((with_reducible refine Kof.use hKb (P_next ?_)); clear hKb Kb)
                | with_reducible refine G_plan 19 [([0, 1, 2, 3, 4, 5, 6], 7, [[0, 1, 2, 3, 4]]), ([8, 9], 10, [[], []])] [11] hQe fun K E hK hE => ?_
                | ((with_reducible refine W_cond (fun h => ?_) (fun h => ?_)) <;> (try (exfalso; first | assumption | omega)))
                | ((with_reducible first | refine G_region fun K E hK hE => ?_ | refine call_ret can36 (RMay_S _ (by assumption) _) ?_ | refine call_ret can37 (Rjoin_S _ _ (by assumption) (by assumption) _) ?_ | refine call_ret can23 (Rsigns_S _ (by first | assumption | omega) _) ?_ | refine W_if ?_ | refine W_ifS ?_ | refine P_heads fun Kh hKh => ?_ | refine P_fin fun Kh hKh => ?_ | refine P_each fun Kb hKb => ?_ | refine W_and ?_) <;> (try simp (disch := first | assumption | omega) only [go_sem, seval, List.length_map, hL2, bytesV_len, List.length_append, *]))
                | ((with_reducible refine W_fresh (fun b hb => ?_)); (repeat (obtain ⟨_, hb⟩ := hb)); (try ((try simp only [own_fr] at hb); (repeat (obtain ⟨_, hb⟩ := hb)))); (try simp (disch := first | assumption | omega) only [go_sem, seval, List.length_map, hL2, bytesV_len, List.length_append, *]))
                | ((with_reducible refine W_app (fun o2 ho => ?_)); (try simp (disch := assumption) only [disown_set, disown_own, ownok_o, ownok_m, List.length_map, List.length_cons, List.length_nil, Nat.zero_add, List.length_map, hL2, bytesV_len, List.length_append] at ho); (repeat (obtain ⟨_, ho⟩ := ho)); (try simp (disch := first | assumption | omega) only [go_sem, seval, List.length_map, hL2, bytesV_len, List.length_append, *]))
                | ((with_reducible refine W_gd (fun h => ?_) (fun h => ?_)) <;> (try (exfalso; first | assumption | omega)) <;> (try simp (disch := first | assumption | omega) only [go_sem, seval, List.length_map, hL2, bytesV_len, List.length_append, *]))))
              all_goals exact ⟨_, (by ((try dsimp only); (repeat (first | exact Fg.refl _ | exact Fg.own (by assumption) | (refine Fg.set ?_ _ _) | (refine Fg.setA ?_ (by first | assumption | (simp (disch := assumption) only [own_rd, St.set, if_false, if_true, *]; done))) )); done) : Fg _ ((s.own o2 5 1 _).set bx _)), m - 1, by omega, i + 1, o2, _, by omega, by omega, HE5.out, (by simp only [List.length_append, hL2l]), by simp only [List.length_append]; assumption, by assumption, by ((try simp (disch := first | assumption | omega) only [go_sem, seval, *]) <;> first | rfl | omega), by ((try simp (disch := first | assumption | omega) only [go_sem, seval, *]) <;> first | rfl | omega), by ((try simp (disch := first | assumption | omega) only [go_sem, seval, *]) <;> first | rfl | omega)⟩
      · have hiL : i = x.length := by omega
        have htk : x.take i = x := by rw [hiL]; exact List.take_length
        rw [htk] at hbs
        subst hbs
        cases hL : lexSigns (prtB x) with
        | error e =>
          obtain ⟨a, e⟩ := e
          have he := lexSigns_err hL
          have he' : ¬ (e : Int) = 0 := by omega
          rw [hL] at hsig
          simp only [signsV] at hsig
          have hres : printV x = .tup [.str [], .int .i64 2] := by simp [printV, printS, HC.out, hL]
          (repeat' (first
            | with_reducible first | refine L_seq ?_ | refine L_blk ?_ | refine L_skip ?_ | refine L_endblk ?_ | refine L_ret ?_ | refine L_exit ?_ | refine X_code ?_ | refine X_back ?_ | refine X_blk ?_ | refine X_past (by decide) ?_ | refine L_back ?_
            | ((with_reducible refine Kof.use hK ?_); clear hK hE K E)
            | ((with_reducible refine Eof.use hE ?_); (try clear hK hE K E))
            | ((with_reducible refine Kof.use hKh ?_); clear hKh Kh)
            | ((with_reducible refine Kof.use hKb (P_next ?_)); clear hKb Kb)
            | with_reducible refine G_plan 19 [([0, 1, 2, 3, 4, 5, 6], 7, [[0, 1, 2, 3, 4]]), ([8, 9], 10, [[], []])] [11] hQe fun K E hK hE => ?_
            | ((with_reducible refine W_cond (fun h => ?_) (fun h => ?_)) <;> (try (exfalso; first | assumption | omega)))
            | ((with_reducible first | refine G_region fun K E hK hE => ?_ | refine call_ret can23 (hsig _) ?_ | refine call_ret can36 (RMay_S _ (by assumption) _) ?_ | refine call_ret can37 (Rjoin_S _ _ (by assumption) (by assumption) _) ?_ | refine call_ret can23 (Rsigns_S _ (by first | assumption | omega) _) ?_ | refine W_if ?_ | refine W_ifS ?_ | refine P_heads fun Kh hKh => ?_ | refine P_fin fun Kh hKh => ?_ | refine P_each fun Kb hKb => ?_ | refine W_and ?_) <;> (try simp (disch := first | assumption | omega) only [go_sem, seval, *]))
            | ((with_reducible refine W_fresh (fun b hb => ?_)); (repeat (obtain ⟨_, hb⟩ := hb)); (try simp (disch := first | assumption | omega) only [go_sem, seval, *]))
            | ((with_reducible refine W_app (fun o2 ho => ?_)); (repeat (obtain ⟨_, ho⟩ := ho)); (try simp (disch := first | assumption | omega) only [go_sem, seval, *]))
            | ((with_reducible refine W_gd (fun h => ?_) (fun h => ?_)) <;> (try (exfalso; first | assumption | omega)) <;> (try simp (disch := first | assumption | omega) only [go_sem, seval, *]))))
          all_goals (first | refine G_ret hQ (by simp (disch := first | assumption | omega) only [res16, go_sem, seval, *] <;> rfl) ?_ | refine G_norm hQ (by simp (disch := first | assumption | omega) only [res16, go_sem, seval, *] <;> rfl) ?_ | refine G_pan hQ ?_)
          all_goals (refine ⟨_, _, Wk.of_eq ?_, ?_, rfl, rfl⟩)
          · rw [hres]
          · ((try dsimp only); (repeat (first | exact Fg.refl _ | exact Fg.own (by assumption) | (refine Fg.set ?_ _ _) | (refine Fg.setA ?_ (by first | assumption | (simp (disch := assumption) only [own_rd, St.set, if_false, if_true, *]; done))) )); done)
        | ok L =>
          rw [hL] at hsig
          simp only [signsV] at hsig
          have hres : printV x = .tup [.str (prtB x), .int .i64 0] := by simp [printV, printS, HC.out, hL]
          (repeat' (first
            | with_reducible first | refine L_seq ?_ | refine L_blk ?_ | refine L_skip ?_ | refine L_endblk ?_ | refine L_ret ?_ | refine L_exit ?_ | refine X_code ?_ | refine X_back ?_ | refine X_blk ?_ | refine X_past (by decide) ?_ | refine L_back ?_
            | ((with_reducible refine Kof.use hK ?_); clear hK hE K E)
            | ((with_reducible refine Eof.use hE ?_); (try clear hK hE K E))
            | ((with_reducible refine Kof.use hKh ?_); clear hKh Kh)
            | ((with_reducible refine Kof.use hKb (P_next ?_)); clear hKb Kb)
            | with_reducible refine G_plan 19 [([0, 1, 2, 3, 4, 5, 6], 7, [[0, 1, 2, 3, 4]]), ([8, 9], 10, [[], []])] [11] hQe fun K E hK hE => ?_
            | ((with_reducible refine W_cond (fun h => ?_) (fun h => ?_)) <;> (try (exfalso; first | assumption | omega)))
            | ((with_reducible first | refine G_region fun K E hK hE => ?_ | refine call_ret can23 (hsig _) ?_ | refine call_ret can36 (RMay_S _ (by assumption) _) ?_ | refine call_ret can37 (Rjoin_S _ _ (by assumption) (by assumption) _) ?_ | refine call_ret can23 (Rsigns_S _ (by first | assumption | omega) _) ?_ | refine W_if ?_ | refine W_ifS ?_ | refine P_heads fun Kh hKh => ?_ | refine P_fin fun Kh hKh => ?_ | refine P_each fun Kb hKb => ?_ | refine W_and ?_) <;> (try simp (disch := first | assumption | omega) only [go_sem, seval, *]))
            | ((with_reducible refine W_fresh (fun b hb => ?_)); (repeat (obtain ⟨_, hb⟩ := hb)); (try simp (disch := first | assumption | omega) only [go_sem, seval, *]))
            | ((with_reducible refine W_app (fun o2 ho => ?_)); (repeat (obtain ⟨_, ho⟩ := ho)); (try simp (disch := first | assumption | omega) only [go_sem, seval, *]))
            | ((with_reducible refine W_gd (fun h => ?_) (fun h => ?_)) <;> (try (exfalso; first | assumption | omega)) <;> (try simp (disch := first | assumption | omega) only [go_sem, seval, *]))))
          all_goals (first | refine G_ret hQ (by simp (disch := first | assumption | omega) only [res16, go_sem, seval, *] <;> rfl) ?_ | refine G_norm hQ (by simp (disch := first | assumption | omega) only [res16, go_sem, seval, *] <;> rfl) ?_ | refine G_pan hQ ?_)
          all_goals (refine ⟨_, _, Wk.of_eq ?_, ?_, rfl, rfl⟩)
          · rw [hres]
          · ((try dsimp only); (repeat (first | exact Fg.refl _ | exact Fg.own (by assumption) | (refine Fg.set ?_ _ _) | (refine Fg.setA ?_ (by first | assumption | (simp (disch := assumption) only [own_rd, St.set, if_false, if_true, *]; done))) )); done)
end
end Go.Proofs.Ytilpdejbldllbaa
