/- What is proved: What oo.Print hands back. Conditions: texts and lists of at most 2^47 parts. Conditions: those that stand in the statements. -/
import Derived.Test.YtejlknplmfmceaaZOwj
set_option linter.unusedSimpArgs false
set_option linter.unusedVariables false
set_option maxRecDepth 100000
namespace Go.Proofs.Ytejlknplmfmceaa
open Go.RowKit

/-- The text of a source, or why it has none. -/
def printS (x : List Cls) : List UInt8 × Nat :=
  if checkB x = true then (match lexSigns (prtB x) with | .ok _ => (prtB x, 0) | .error _ => ([], 2)) else ([], 1)
def printV (x : List Cls) : VV := .tup [.str (printS x).1, .int .i64 (printS x).2]

theorem Bs_S (t : St) (b : Nat) (ad : VV) (bs : List UInt8) (o : Own) (d : Int) (hO : Owned t o 5 1 bs.length) (hn : NotOwn o b) (hne : o = .full ∨ bs ≠ []) :
    SRet Try.prog 46 [.ptr b 0] (Wr t b ad bs o d) (.str bs) (Wr t b ad bs o d) := by
  have := Bstr_S (t.disown o) b ad bs o d (ownok_disown hO) hn hne
  rw [own_disown hO] at this
  exact this
theorem cls_ne (bs : List UInt8) (c : Cls) : bs ++ clsB c ≠ [] := by
  simp [clsB, lineB]

set_option maxHeartbeats 4000000 in
theorem Print_S (x : List Cls) (hx : SrcOk x) (s : St) : SRet Try.prog 28 [srcV x] s (printV x) s := by
  have hck := check_S x hx
  simp only [srcV] at hck
  refine G_enter Try.func28 rfl Try.ntmps28 rfl fun Q hQ hQe => ?_
  cases hc : checkB x with
  | false =>
    have hres : printV x = .tup [.str [], .int .i64 1] := by simp [printV, printS, hc]
    rw [hc] at hck
    (repeat' (first | refine Ctl ?_ | ((with_reducible refine Kof.use hK ?_); clear hK hE K E) | ((with_reducible refine Eof.use hE ?_); (try clear hK hE K E)) | ((with_reducible refine W_cond (fun h => ?_) (fun h => ?_)) <;> (try (exfalso; first | assumption | omega))) | ((first | (with_reducible first | refine G_region fun K E hK hE => ?_ | refine call_ret can40 (hck _) ?_ | refine call_ret can46 (Bstr_S _ _ _ _ _ _ (by assumption) (by assumption) (by assumption)) ?_ | refine call_ret can46 (Cstr_S _ _ _ _ _ (by assumption) (by assumption) (by assumption)) ?_ | refine call_ret can40 (check_S _ (by assumption) _) ?_ | refine call_ret can46 (Cs_S _ _ _ _ _ (by assumption) (by assumption) (by assumption)) ?_ | refine W_if ?_ | refine W_ifS ?_ | refine W_and ?_) | ((with_reducible refine call_ex can41 (line_S _ _ _ _ _ _ _ _ (by assumption) (by assumption) (by assumption) (by assumption) (by assumption) (by assumption)) (fun a h => ?_))) | ((with_reducible refine W_fresh (fun b hb => ?_)); (repeat (obtain ⟨_, hb⟩ := hb)))) <;> (try simp (disch := first | assumption | omega) only [go_sem, seval, List.length_map, srcV, *]))))
    all_goals (first | refine W_ret res28 hQ ?_ | refine W_norm res28 hQ ?_ | refine G_pan hQ ?_)
    all_goals (refine ⟨_, _, Wk.of_eq ?_, ?_, rfl, rfl⟩)
    · rw [hres]
    · (exact z_fg)
  | true =>
    obtain ⟨h32, hpl, hcs⟩ := check_parts hc hx
    have hgl : (prtB x).length ≤ 9223372036854775000 := by omega
    have hsig := fun s => signs_S (prtB x) hgl s
    have HC := Lib.hid hc
    rw [hc] at hck
    clear hc
    (repeat' (first | refine Ctl ?_ | ((with_reducible refine Kof.use hK ?_); clear hK hE K E) | ((with_reducible refine Eof.use hE ?_); (try clear hK hE K E)) | ((with_reducible refine W_cond (fun h => ?_) (fun h => ?_)) <;> (try (exfalso; first | assumption | omega))) | ((first | (with_reducible first | refine G_region fun K E hK hE => ?_ | refine call_ret can40 (hck _) ?_ | refine call_ret can46 (Bstr_S _ _ _ _ _ _ (by assumption) (by assumption) (by assumption)) ?_ | refine call_ret can46 (Cstr_S _ _ _ _ _ (by assumption) (by assumption) (by assumption)) ?_ | refine call_ret can40 (check_S _ (by assumption) _) ?_ | refine call_ret can46 (Cs_S _ _ _ _ _ (by assumption) (by assumption) (by assumption)) ?_ | refine W_if ?_ | refine W_ifS ?_ | refine W_and ?_) | ((with_reducible refine call_ex can41 (line_S _ _ _ _ _ _ _ _ (by assumption) (by assumption) (by assumption) (by assumption) (by assumption) (by assumption)) (fun a h => ?_))) | ((with_reducible refine W_fresh (fun b hb => ?_)); (repeat (obtain ⟨_, hb⟩ := hb)))) <;> (try simp (disch := first | assumption | omega) only [go_sem, seval, List.length_map, srcV, Wr_out, *]))))
    rename_i xb hxb bw n1 n2 hbw m1 m2 m3 m4
    obtain ⟨x4, hx4⟩ : ∃ x4, x4 = b := ⟨_, rfl⟩
    subst hx4
    have line0 : ∀ (t : St) (ad : VV) (bs : List UInt8) (o : Own) (xs : List (List VV)) (o0 : Own), strs (unS xs) = xs → (unS xs).length ≤ 1000 → AdOk bw ad → Owned t o 5 1 bs.length → NotOwn o bw → bs.length + (lineB 0 (unS xs)).length ≤ 140737488355328 →
        SCalls Try.prog 41 [.ptr bw 0, .lst xs o0] (Wr t bw ad bs o 0) (fun e u => ∃ q : Own × VV, e = .ret (.tup []) ∧ u = WS t bw o (bs ++ lineB 0 (unS xs)) 0 q ∧ WO t bw o (bs ++ lineB 0 (unS xs)) q) :=
      fun t ad bs o xs o0 h1 h2 h3 h4 h5 h6 => lineX_S t bw ad bs o 0 xs o0 h1 h2 h3 h4 h5 h6 (by omega)
    refine G_loop (fun m env s' => ∃ (i : Nat) (o1 : Own) (ad1 : VV) (bs1 : List UInt8), i ≤ x.length ∧ m + i = x.length ∧ bs1 = prtB (x.take i) ∧ s' = Wr ((s.own o1 5 1 bs1.length).set x4 (.obj 89 [.ptr bw 0])) bw ad1 bs1 o1 0 ∧
      OwnOk s o1 bs1.length ∧ NotOwn o1 bw ∧ NotOwn o1 x4 ∧ AdOk bw ad1 ∧ (o1 = .full ∨ bs1 ≠ []) ∧ env 4 = .ptr x4 0 ∧ env 17 = .lst (x.map clsC) .no ∧ env 18 = .int .i64 x.length ∧ env 19 = .int .i64 i) x.length ?_ ?_
    · exact ⟨Wr ((s.own .full 5 1 0).set x4 (.obj 89 [.ptr bw 0])) bw (.raw (.pointer none)) [] .full 0, z_fg, 0, .full, .raw (.pointer none), [], by omega, by omega, rfl, rfl, rfl, trivial, trivial, .inl rfl, .inl rfl, z_sl, z_sl, z_sl, z_sl⟩
    · rintro m env s' ⟨i, o1, ad1, bs1, hi, hm2, hbs, rfl, hO, hn, hno, had, hne, e4, e17, e18, e19⟩
      by_cases hlt : i < x.length
      · obtain ⟨c, hcx⟩ := list_get hlt
        have hsx := clsC_at hcx
        obtain ⟨hc1, hc2, hc3⟩ := hcs c (List.mem_of_getElem? hcx)
        have hc4 := (hx.2 c (List.mem_of_getElem? hcx)).2.1
        have HB : bs1.length + (clsB c).length ≤ 140737488355328 := by
          rw [prtB_at hcx] at hpl
          rw [hbs]
          simp only [List.length_append] at hpl ⊢
          omega
        have HE : bs1 ++ clsB c = prtB (x.take (i + 1)) := by rw [prtB_tk hcx, hbs]
        have HE0 := Lib.hid HE
        have HN := Lib.hid (cls_ne bs1 c)
        clear HE hbs hcx hck hsig hcs hgl
        obtain ⟨nm, pa, ms⟩ := c
        simp only at hc1 hc2 hc3 hc4
        have w1 := fun t ad bs o x6 => cloP_S (nm := nm) (pa := pa) hc2 hc3 t bw ad bs o x6 x4
        simp only [clsC] at hsx
        have hpp : pa = [] ∨ ¬ pa = [] := Classical.em _
        rcases hpp with rfl | hpp
        all_goals simp only [clsB, parB, if_true, if_false, List.cons_append, List.nil_append, *] at HB
        all_goals (repeat' (first | refine Ctl ?_ | ((with_reducible refine Kof.use hK ?_); clear hK hE K E) | ((with_reducible refine Eof.use hE ?_); (try clear hK hE K E)) | ((with_reducible refine W_cond (fun h => ?_) (fun h => ?_)) <;> (try (exfalso; first | assumption | omega))) | ((first | (with_reducible first | refine G_region fun K E hK hE => ?_ | refine call_ret can46 (Bstr_S _ _ _ _ _ _ (by assumption) (by assumption) (by assumption)) ?_ | refine call_ret can46 (Cstr_S _ _ _ _ _ (by assumption) (by assumption) (by assumption)) ?_ | refine call_ret can40 (check_S _ (by assumption) _) ?_ | refine call_ret can46 (Cs_S _ _ _ _ _ (by assumption) (by assumption) (by assumption)) ?_ | refine W_if ?_ | refine W_ifS ?_ | refine W_and ?_) | ((with_reducible refine call_ex can41 (line0 _ _ _ _ _ _ (by simp only [unS_nil, unS_cons, strs, List.map_cons, List.map_nil]) (by simp only [unS_nil, unS_cons, List.length_cons, List.length_nil]; omega) (by assumption) (by simp (disch := assumption) only [owned_set, owned_own]) (by assumption) (by simp only [unS_nil, unS_cons, List.length_append] at HB ⊢; omega)) (fun a h => ?_)); (obtain ⟨o2, ad2⟩ := a; simp (disch := assumption) only [WO, disown_set, disown_own, ownok_o, unS_nil, unS_cons] at h; obtain ⟨⟨hn5, hn2, hO2⟩, hnb2, had2⟩ := h)) | ((with_reducible refine call_ex can42 (w1 _ _ _ _ _ (by assumption) (by assumption) (by simp (disch := first | assumption | omega) only [go_sem, seval, *]) (by simp (disch := first | assumption | omega) only [go_sem, seval, *]) (by assumption) (by simp (disch := assumption) only [owned_set, owned_own]) (by assumption) (by simp only [unS_nil, unS_cons, List.length_append] at HB ⊢; omega)) (fun a h => ?_)); (obtain ⟨o2, ad2⟩ := a; simp (disch := assumption) only [WO, disown_set, disown_own, ownok_o, unS_nil, unS_cons] at h; obtain ⟨⟨hn5, hn2, hO2⟩, hnb2, had2⟩ := h)) | ((with_reducible refine call_ex can41 (line_S _ _ _ _ _ _ _ _ (by assumption) (by assumption) (by assumption) (by assumption) (by assumption) (by assumption)) (fun a h => ?_)); (obtain ⟨o2, ad2⟩ := a; simp (disch := assumption) only [WO, disown_set, disown_own, ownok_o, unS_nil, unS_cons] at h; obtain ⟨⟨hn5, hn2, hO2⟩, hnb2, had2⟩ := h)) | ((with_reducible refine W_fresh (fun b hb => ?_)); (repeat (obtain ⟨_, hb⟩ := hb)); (try (simp only [own_fr] at hb; obtain ⟨hno5, hb⟩ := hb)))) <;> (try simp (disch := first | assumption | omega) only [go_sem, seval, List.length_map, hsx, Wr, WS, Wr_out, *]))))
        all_goals
          have hE := HE0.out
          have hN := HN.out
          simp only [clsB, parB, if_true, if_false, List.cons_append, List.nil_append, ← List.append_assoc, *] at hE hN
          exact ⟨_, (z_fg : Fg _ (Wr ((s.own o2 5 1 _).set x4 (.obj 89 [.ptr bw 0])) bw ad2 _ o2 0)), m - 1, by omega, i + 1, o2, ad2, _, by omega, by omega, hE, rfl, by assumption, by assumption, by assumption, by assumption, .inr (by simpa using hN), z_sl, z_sl, z_sl, z_sl⟩
      · have hiL : i = x.length := by omega
        have htk : x.take i = x := by rw [hiL]; exact List.take_length
        rw [htk] at hbs
        subst hbs
        have hstr := fun t ad o hO hn hne => Bs_S t bw ad (prtB x) o 0 hO hn hne
        cases hL : lexSigns (prtB x) with
        | error e =>
          obtain ⟨a, e⟩ := e
          have he := lexSigns_err hL
          have he' : ¬ (e : Int) = 0 := by omega
          rw [hL] at hsig
          simp only [signsV] at hsig
          have hres : printV x = .tup [.str [], .int .i64 2] := by simp [printV, printS, HC.out, hL]
          (repeat' (first | refine Ctl ?_ | ((with_reducible refine Kof.use hK ?_); clear hK hE K E) | ((with_reducible refine Eof.use hE ?_); (try clear hK hE K E)) | ((with_reducible refine W_cond (fun h => ?_) (fun h => ?_)) <;> (try (exfalso; first | assumption | omega))) | ((first | (with_reducible first | refine G_region fun K E hK hE => ?_ | refine call_ret can46 (hstr _ _ _ (by simp (disch := assumption) only [owned_set, owned_own]) (by assumption) (by assumption)) ?_ | refine call_ret can45 (hsig _) ?_ | refine call_ret can46 (Bstr_S _ _ _ _ _ _ (by assumption) (by assumption) (by assumption)) ?_ | refine call_ret can46 (Cstr_S _ _ _ _ _ (by assumption) (by assumption) (by assumption)) ?_ | refine call_ret can40 (check_S _ (by assumption) _) ?_ | refine call_ret can46 (Cs_S _ _ _ _ _ (by assumption) (by assumption) (by assumption)) ?_ | refine W_if ?_ | refine W_ifS ?_ | refine W_and ?_) | ((with_reducible refine call_ex can41 (line_S _ _ _ _ _ _ _ _ (by assumption) (by assumption) (by assumption) (by assumption) (by assumption) (by assumption)) (fun a h => ?_))) | ((with_reducible refine W_fresh (fun b hb => ?_)); (repeat (obtain ⟨_, hb⟩ := hb)))) <;> (try simp (disch := first | assumption | omega) only [go_sem, seval, Wr, Wr_out, *]))))
          all_goals (first | refine W_ret res28 hQ ?_ | refine W_norm res28 hQ ?_ | refine G_pan hQ ?_)
          all_goals (refine ⟨_, _, Wk.of_eq ?_, ?_, rfl, rfl⟩)
          · rw [hres]
          · (exact z_fg)
        | ok L =>
          rw [hL] at hsig
          simp only [signsV] at hsig
          have hres : printV x = .tup [.str (prtB x), .int .i64 0] := by simp [printV, printS, HC.out, hL]
          (repeat' (first | refine Ctl ?_ | ((with_reducible refine Kof.use hK ?_); clear hK hE K E) | ((with_reducible refine Eof.use hE ?_); (try clear hK hE K E)) | ((with_reducible refine W_cond (fun h => ?_) (fun h => ?_)) <;> (try (exfalso; first | assumption | omega))) | ((first | (with_reducible first | refine G_region fun K E hK hE => ?_ | refine call_ret can46 (hstr _ _ _ (by simp (disch := assumption) only [owned_set, owned_own]) (by assumption) (by assumption)) ?_ | refine call_ret can45 (hsig _) ?_ | refine call_ret can46 (Bstr_S _ _ _ _ _ _ (by assumption) (by assumption) (by assumption)) ?_ | refine call_ret can46 (Cstr_S _ _ _ _ _ (by assumption) (by assumption) (by assumption)) ?_ | refine call_ret can40 (check_S _ (by assumption) _) ?_ | refine call_ret can46 (Cs_S _ _ _ _ _ (by assumption) (by assumption) (by assumption)) ?_ | refine W_if ?_ | refine W_ifS ?_ | refine W_and ?_) | ((with_reducible refine call_ex can41 (line_S _ _ _ _ _ _ _ _ (by assumption) (by assumption) (by assumption) (by assumption) (by assumption) (by assumption)) (fun a h => ?_))) | ((with_reducible refine W_fresh (fun b hb => ?_)); (repeat (obtain ⟨_, hb⟩ := hb)))) <;> (try simp (disch := first | assumption | omega) only [go_sem, seval, Wr, Wr_out, *]))))
          all_goals (first | refine W_ret res28 hQ ?_ | refine W_norm res28 hQ ?_ | refine G_pan hQ ?_)
          all_goals (refine ⟨_, _, Wk.of_eq ?_, ?_, rfl, rfl⟩)
          · rw [hres]
          · (exact z_fg)
end Go.Proofs.Ytejlknplmfmceaa
