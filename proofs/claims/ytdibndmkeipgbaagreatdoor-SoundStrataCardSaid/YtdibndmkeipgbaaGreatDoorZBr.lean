/- What is proved: What strings.Builder's methods do, where the Builder lies in a block of its own. Conditions: those that stand in the statements. -/
import Derived.Test.YtdibndmkeipgbaaGreatDoorZBldj
set_option linter.unusedSimpArgs false
set_option linter.unusedVariables false
set_option maxRecDepth 100000
namespace Go.Proofs.YtdibndmkeipgbaaGreatDoor
open Go.RowKit

/-- A Builder in its own block: its own address once it was written, and its bytes. -/
abbrev Wb (s : St) (b : Nat) (ad : VV) (bs : List UInt8) (o : Own) : St := s.set b (.obj 130 [ad, .lst (bytesV bs) o])
theorem cvb_to : cvok Tryz.prog 128 153 130 2 0 = true := by kernel_rfl
theorem cvb_back : cvok Tryz.prog 153 128 130 2 0 = true := by kernel_rfl

theorem Ccheck_S (s : St) (b : Nat) (ad : VV) (bs : List UInt8) (o : Own) (had : ad = .raw (.pointer none) ∨ ad = .ptr b 0) :
    SRet Tryz.prog 79 [.ptr b 0] (Wb s b ad bs o) (.tup []) (Wb s b (.ptr b 0) bs o) := by
  refine G_enter Tryz.func79 rfl Tryz.ntmps79 rfl fun Q hQ hQe => ?_
  rcases had with rfl | rfl
  · (repeat' (first | refine Ctl ?_ | ((with_reducible refine Kof.use hK ?_); clear hK hE K E) | ((with_reducible refine Eof.use hE ?_); (try clear hK hE K E)) | ((with_reducible refine W_cond (fun h => ?_) (fun h => ?_)) <;> (try (exfalso; first | assumption | omega))) | ((first | (with_reducible first | refine G_region fun K E hK hE => ?_ | refine call_ext (ext_noEscape _ _) ?_ | refine W_if ?_ | refine W_ifS ?_ | refine W_and ?_)) <;> (try simp (disch := first | assumption | omega) only [go_sem, seval, Wb, List.length_cons, List.length_nil, Nat.zero_add, Nat.reduceAdd, cvb_to, cvb_back, *]))))
    all_goals (first | refine W_ret res79 hQ ?_ | refine W_norm res79 hQ ?_ | refine G_pan hQ ?_)
    all_goals (refine ⟨_, _, Wk.of_eq ?_, ?_, rfl, rfl⟩)
    all_goals first | rfl | exact Fg.refl _
  · (repeat' (first | refine Ctl ?_ | ((with_reducible refine Kof.use hK ?_); clear hK hE K E) | ((with_reducible refine Eof.use hE ?_); (try clear hK hE K E)) | ((with_reducible refine W_cond (fun h => ?_) (fun h => ?_)) <;> (try (exfalso; first | assumption | omega))) | ((first | (with_reducible first | refine G_region fun K E hK hE => ?_ | refine call_ext (ext_noEscape _ _) ?_ | refine W_if ?_ | refine W_ifS ?_ | refine W_and ?_)) <;> (try simp (disch := first | assumption | omega) only [go_sem, seval, Wb, List.length_cons, List.length_nil, Nat.zero_add, Nat.reduceAdd, cvb_to, cvb_back, *]))))
    all_goals (first | refine W_ret res79 hQ ?_ | refine W_norm res79 hQ ?_ | refine G_pan hQ ?_)
    all_goals (refine ⟨_, _, Wk.of_eq ?_, ?_, rfl, rfl⟩)
    all_goals first | rfl | exact Fg.refl _

theorem Cwrite_S (s : St) (b : Nat) (ad : VV) (bs : List UInt8) (o : Own) (t : List UInt8) (had : ad = .raw (.pointer none) ∨ ad = .ptr b 0) (ho : OwnOk s o bs.length) (hn : NotOwn o b) (hl : bs.length + t.length ≤ 140737488355328) :
    SCalls Tryz.prog 68 [.ptr b 0, .str t] (Wb (s.own o 5 1 bs.length) b ad bs o) fun e u => ∃ o', e = .ret (.tup [.int .i64 (t.length : Int), .raw .nilIface]) ∧
      u = Wb (s.own o' 5 1 (bs ++ t).length) b (.ptr b 0) (bs ++ t) o' ∧ (OwnOk s o' (bs ++ t).length ∧ NotOwn o' b) := by
  refine G_enter Tryz.func68 rfl Tryz.ntmps68 rfl fun Q hQ hQe => ?_
  have hb1 : (bytesV bs).length = bs.length := by simp [bytesV]
  have hb2 : (bytesV t).length = t.length := by simp [bytesV]
  have hby : ∀ y, y ∈ bytesV t → y.length = 1 := fun y hy => by simp only [bytesV, List.mem_map] at hy; obtain ⟨_, _, rfl⟩ := hy; rfl
  (repeat' (first | refine Ctl ?_ | ((with_reducible refine Kof.use hK ?_); clear hK hE K E) | ((with_reducible refine Eof.use hE ?_); (try clear hK hE K E)) | ((with_reducible refine W_cond (fun h => ?_) (fun h => ?_)) <;> (try (exfalso; first | assumption | omega))) | ((first | (with_reducible first | refine G_region fun K E hK hE => ?_ | refine call_ret can79 (Bcheck_S _ _ _ _ _ _ (by assumption)) ?_ | refine call_ret can79 (Ccheck_S _ _ _ _ _ (by assumption)) ?_ | refine W_if ?_ | refine W_ifS ?_ | refine W_and ?_) | ((with_reducible refine W_app (fun o2 ho => ?_)); (try simp (disch := assumption) only [disown_set, disown_own, ownok_o, ownok_m, List.length_map, List.length_cons, List.length_nil, Nat.zero_add, Wb, hb1, hb2, List.length_cons, List.length_nil] at ho); (repeat (obtain ⟨_, ho⟩ := ho)))) <;> (try simp (disch := first | assumption | omega) only [go_sem, seval, Wb, hb1, hb2, List.length_cons, List.length_nil, *]))))
  all_goals (first | refine W_ret res68 hQ ?_ | refine W_norm res68 hQ ?_ | refine G_pan hQ ?_)
  all_goals exact ⟨_, _, Wk.refl _, Fg.refl _, o2, rfl, by simp [Wb, bytesV, List.length_append], by simpa using ho, by assumption⟩
theorem Cstr_S (s : St) (b : Nat) (ad : VV) (bs : List UInt8) (o : Own) (ho : OwnOk s o bs.length) (hn : NotOwn o b) (hne : o = .full ∨ bs ≠ []) :
    SRet Tryz.prog 73 [.ptr b 0] (Wb (s.own o 5 1 bs.length) b ad bs o) (.str bs) (Wb (s.own o 5 1 bs.length) b ad bs o) := by
  intro w0 G w vs hS hA
  obtain ⟨u, rfl, hu⟩ := rlist1 hA
  cases hu
  have hob := hS.ok b
  simp only [Wb, St.set_same] at hob
  obtain ⟨hB, hnK, c, hh, hcs, hx⟩ := hob
  obtain ⟨_, v, hv, hr⟩ := hx 1 (.lst (bytesV bs) o) rfl
  have hex : ∀ l : List UInt8, R G (.string ⟨l.toArray⟩) (.str l) := fun l => by simpa using R.str (G := G) l.toArray
  generalize hys : bytesV bs = ys at hr
  cases hr with
  | emp a cap o ho' =>
    have hb0 : bs = [] := by cases bs <;> simp_all [bytesV]
    subst hb0
    rcases ho' with rfl | ⟨rfl, rfl, rfl⟩
    · exact ho.elim
    · refine Calls.mono (Bstr_w0 b c _ w hh hv) fun e w' h => ?_
      obtain ⟨rfl, rfl⟩ := h
      exact ⟨G, _, .ret (.str []), Gh.le.refl G, hS.drew, hex [], rfl, rfl⟩
  | lst g off len cap sz xs' o f hlen hc hz h1 hK hR ho' =>
    rcases ho' with rfl | ⟨rfl, _, hpos⟩ | ⟨rfl, rfl, hcap⟩
    · exact ho.elim
    · simp only [OwnOk] at ho
      have : ys.length = bs.length := by rw [← hys]; simp [bytesV]
      omega
    · have hlb : ys.length = bs.length := by rw [← hys]; simp [bytesV]
      subst hys
      have hgb : ¬ b = g := hn
      have hsg : (Wb (s.own (.at_ g) 5 1 bs.length) b ad bs (.at_ g)) g = .vec 5 1 bs.length := by
        show ((s.set g (.vec 5 1 bs.length)).set b _) g = _
        rw [St.set_other _ _ (Ne.symm hgb), St.set_same]
      have hog := hS.ok g
      rw [hsg] at hog
      obtain ⟨hBg, cg, capg, fz, hcapg, hhg, hfz, hcsg, hncg, hcmg, hKng⟩ := hog
      rw [hcap] at hcapg
      injection hcapg with hcapg
      simp only [Prod.mk.injEq] at hcapg
      obtain ⟨rfl, rfl⟩ := hcapg
      have hlen2 : len = bs.length := by omega
      subst hlen2
      by_cases h0 : bs = []
      · subst h0
        rcases hne with hne | hne
        · cases hne
        · exact absurd rfl hne
      · have hpos : 0 < bs.length := List.length_pos_iff.2 h0
        refine Calls.mono (Bstr_w b g cap c bs _ cg fz w hh hv hhg (by omega) (by omega) h0 (by simp only [maxLen] at hcmg; omega) ?_) fun e w' h => ?_
        · intro j x hj
          have hlt : j < bs.length := (List.getElem?_eq_some_iff.1 hj).1
          have h2 := hS.K _ _ _ (hK j 0 hlt (by omega))
          have h3 := hR j 0 [.int .u8 (x.toNat : Int)] (.int .u8 (x.toNat : Int)) (by simp [bytesV, hj]) rfl
          generalize f j 0 = v at h2 h3
          cases h3
          simpa using h2
        · obtain ⟨rfl, rfl⟩ := h
          exact ⟨G, _, .ret (.str bs), Gh.le.refl G, hS.drew.freeze hsg (by omega), hex bs, rfl, rfl⟩
end Go.Proofs.YtdibndmkeipgbaaGreatDoor
