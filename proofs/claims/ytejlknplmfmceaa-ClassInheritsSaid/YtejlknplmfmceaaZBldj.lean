/- What is proved: What strings.Builder's methods do, where the Builder lies at the head of a writer; What strings.Builder's String hands back, where the Builder lies at the head of a writer. Conditions: those that stand in the statements. -/
import Derived.Test.YtejlknplmfmceaaZJoin
import Derived.Test.YtejlknplmfmceaaZLexP
import Derived.Shelf.Strings.BuilderF
set_option linter.unusedSimpArgs false
set_option linter.unusedVariables false
set_option maxRecDepth 100000
namespace Go.Proofs.Ytejlknplmfmceaa
open Go.RowKit

theorem ext_noEscape (x : VV) (s : St) : SExt Try.prog 94 [x] s fun e t => e = .ret x ∧ t = s := by
  intro w0 G w vs hS hvs
  obtain ⟨v, rfl, hv⟩ := rlist1 hvs
  refine ⟨v, w, G, s, x, ?_, Gh.le.refl G, hS, hv, rfl, rfl⟩
  have hf := Try.func94
  have hn : (Try.f94.name == "runtime.NumGoroutine") = false := by kernel_rfl
  have hx : Extern.findNext Try.f94 = none := by kernel_rfl
  have hy : Extern.find Try.f94 = some Extern.AbiNoEscape.same := by kernel_rfl
  have hb : Try.f94.body.isNone = true := by kernel_rfl
  unfold callFunc
  simp only [Sem.run_bind, run_program, Result.andThen_ok, hf, hn, hb, hx, hy, Bool.false_eq_true, if_false, if_true, run_mark, Lib.run_noEscape, Sem.run_pure]

theorem cv_ptr : cv (.pointer none) = .raw (.pointer none) := rfl
theorem nil_ptr : nilB .ptr (.raw (.pointer none)) (.raw (.pointer none)) = some true := rfl
attribute [go_sem] cv_ptr nil_ptr

/-- A writer: the Builder's own address once it was written, its bytes, and how deep lines stand. -/
abbrev Wr (s : St) (b : Nat) (ad : VV) (bs : List UInt8) (o : Own) (d : Int) : St := s.set b (.obj 95 [ad, .lst (bytesV bs) o, .int .i64 d])
theorem cv_to : cvok Try.prog 90 141 95 3 0 = true := by kernel_rfl
theorem cv_back : cvok Try.prog 141 90 95 3 0 = true := by kernel_rfl

theorem Bcheck_S (s : St) (b : Nat) (ad : VV) (bs : List UInt8) (o : Own) (d : Int) (had : ad = .raw (.pointer none) ∨ ad = .ptr b 0) :
    SRet Try.prog 79 [.ptr b 0] (Wr s b ad bs o d) (.tup []) (Wr s b (.ptr b 0) bs o d) := by
  refine G_enter Try.func79 rfl Try.ntmps79 rfl fun Q hQ hQe => ?_
  rcases had with rfl | rfl
  · (repeat' (first | refine Ctl ?_ | ((with_reducible refine Kof.use hK ?_); clear hK hE K E) | ((with_reducible refine Eof.use hE ?_); (try clear hK hE K E)) | ((with_reducible refine W_cond (fun h => ?_) (fun h => ?_)) <;> (try (exfalso; first | assumption | omega))) | ((first | (with_reducible first | refine G_region fun K E hK hE => ?_ | refine call_ext (ext_noEscape _ _) ?_ | refine W_if ?_ | refine W_ifS ?_ | refine W_and ?_)) <;> (try simp (disch := first | assumption | omega) only [go_sem, seval, Wr, List.length_cons, List.length_nil, Nat.zero_add, Nat.reduceAdd, cv_to, cv_back, *]))))
    all_goals (first | refine W_ret res79 hQ ?_ | refine W_norm res79 hQ ?_ | refine G_pan hQ ?_)
    all_goals (refine ⟨_, _, Wk.of_eq ?_, ?_, rfl, rfl⟩)
    all_goals first | rfl | exact Fg.refl _
  · (repeat' (first | refine Ctl ?_ | ((with_reducible refine Kof.use hK ?_); clear hK hE K E) | ((with_reducible refine Eof.use hE ?_); (try clear hK hE K E)) | ((with_reducible refine W_cond (fun h => ?_) (fun h => ?_)) <;> (try (exfalso; first | assumption | omega))) | ((first | (with_reducible first | refine G_region fun K E hK hE => ?_ | refine call_ext (ext_noEscape _ _) ?_ | refine W_if ?_ | refine W_ifS ?_ | refine W_and ?_)) <;> (try simp (disch := first | assumption | omega) only [go_sem, seval, Wr, List.length_cons, List.length_nil, Nat.zero_add, Nat.reduceAdd, cv_to, cv_back, *]))))
    all_goals (first | refine W_ret res79 hQ ?_ | refine W_norm res79 hQ ?_ | refine G_pan hQ ?_)
    all_goals (refine ⟨_, _, Wk.of_eq ?_, ?_, rfl, rfl⟩)
    all_goals first | rfl | exact Fg.refl _

theorem Bwrite_S (s : St) (b : Nat) (ad : VV) (bs : List UInt8) (o : Own) (d : Int) (t : List UInt8) (had : ad = .raw (.pointer none) ∨ ad = .ptr b 0) (ho : OwnOk s o bs.length) (hn : NotOwn o b) (hl : bs.length + t.length ≤ 140737488355328) :
    SCalls Try.prog 56 [.ptr b 0, .str t] (Wr (s.own o 5 1 bs.length) b ad bs o d) fun e u => ∃ o', e = .ret (.tup [.int .i64 (t.length : Int), .raw .nilIface]) ∧
      u = Wr (s.own o' 5 1 (bs ++ t).length) b (.ptr b 0) (bs ++ t) o' d ∧ (OwnOk s o' (bs ++ t).length ∧ NotOwn o' b) := by
  refine G_enter Try.func56 rfl Try.ntmps56 rfl fun Q hQ hQe => ?_
  have hb1 : (bytesV bs).length = bs.length := by simp [bytesV]
  have hb2 : (bytesV t).length = t.length := by simp [bytesV]
  have hby : ∀ y, y ∈ bytesV t → y.length = 1 := fun y hy => by simp only [bytesV, List.mem_map] at hy; obtain ⟨_, _, rfl⟩ := hy; rfl
  (repeat' (first | refine Ctl ?_ | ((with_reducible refine Kof.use hK ?_); clear hK hE K E) | ((with_reducible refine Eof.use hE ?_); (try clear hK hE K E)) | ((with_reducible refine W_cond (fun h => ?_) (fun h => ?_)) <;> (try (exfalso; first | assumption | omega))) | ((first | (with_reducible first | refine G_region fun K E hK hE => ?_ | refine call_ret can79 (Bcheck_S _ _ _ _ _ _ (by assumption)) ?_ | refine call_ret can79 (Ccheck_S _ _ _ _ _ (by assumption)) ?_ | refine W_if ?_ | refine W_ifS ?_ | refine W_and ?_) | ((with_reducible refine W_app (fun o2 ho => ?_)); (try simp (disch := assumption) only [disown_set, disown_own, ownok_o, ownok_m, List.length_map, List.length_cons, List.length_nil, Nat.zero_add, Wr, hb1, hb2, List.length_cons, List.length_nil] at ho); (repeat (obtain ⟨_, ho⟩ := ho)))) <;> (try simp (disch := first | assumption | omega) only [go_sem, seval, Wr, hb1, hb2, List.length_cons, List.length_nil, *]))))
  all_goals (first | refine W_ret res56 hQ ?_ | refine W_norm res56 hQ ?_ | refine G_pan hQ ?_)
  all_goals exact ⟨_, _, Wk.refl _, Fg.refl _, o2, rfl, by simp [Wr, bytesV, List.length_append], by simpa using ho, by assumption⟩
end Go.Proofs.Ytejlknplmfmceaa
set_option maxRecDepth 100000
namespace Go.Proofs.Ytejlknplmfmceaa
open Go.RowKit

theorem cell?_freeze (w : World) (a p : Addr) (n : Nat) : (w.freeze a n).cell? p = w.cell? p := by
  unfold World.freeze
  split
  · rfl
  · by_cases h : a.block = p.block
    · simp only [World.cell?, Array.getElem?_modify, h, if_true]
      cases w.heap[p.block]? with
      | none => rfl
      | some o => cases o <;> rfl
    · simp only [World.cell?, Array.getElem?_modify, h, if_false]

theorem Sim.freeze {w0 w : World} {G : Gh} {s : St} (hS : Sim w0 G w s) {g k n sz : Nat} {T : TypeId} (hg : s g = .vec T sz n) (hk : k ≤ n * sz) : Sim w0 G (w.freeze ⟨g, 0, none⟩ k) s := by
  have ho := hS.ok g
  rw [hg] at ho
  obtain ⟨hB, c, cap, fz, hcap, hh, hfz, hcs, hnc, hcm, hKn⟩ := ho
  have hsz : (w.freeze ⟨g, 0, none⟩ k).heap.size = w.heap.size := by unfold World.freeze; split <;> simp
  have hoth : ∀ b, b ≠ g → (w.freeze ⟨g, 0, none⟩ k).heap[b]? = w.heap[b]? := fun b hb => by
    unfold World.freeze
    split
    · rfl
    · simp only [Array.getElem?_modify]
      rw [if_neg (by omega)]
  refine ⟨Lib.below_freeze hS.below hB k, fun b i v hv => ?_, fun b q hq => by rw [hsz]; exact hS.cap b q hq, fun b => ?_, hS.gl, hS.rows.keep' (Gh.le.refl G) (by rw [hsz]; exact Nat.le_refl _) (fun b _ hb => ⟨hb, hoth b (by rintro rfl; rw [hg] at hb; cases hb), fun _ => rfl⟩) (fun x T xs rs hx => ⟨hx, hoth x (by rintro rfl; rw [hg] at hx; cases hx)⟩)⟩
  · rw [cell?_freeze]; exact hS.K b i v hv
  · by_cases hb : b = g
    · subst hb
      rw [hg]
      by_cases hk0 : k = 0
      · subst hk0
        exact ⟨hB, c, cap, fz, hcap, by unfold World.freeze; rw [if_pos rfl]; exact hh, hfz, hcs, hnc, hcm, hKn⟩
      · obtain ⟨lo, hi⟩ := fz
        refine ⟨hB, c, cap, _, hcap, by unfold World.freeze; rw [if_neg hk0]; simp only [Array.getElem?_modify, if_true, hh, Option.map_some]; rfl, ?_, hcs, hnc, hcm, hKn⟩
        simp only at hfz ⊢
        split
        · simpa using hk
        · simp only; omega
    · exact (hS.ok b).keep (hoth b hb) (Gh.le.refl G) (fun _ => rfl)

set_option maxHeartbeats 2000000 in
theorem Bstr_w (b g cap : Nat) (cs : Array Value) (l : List UInt8) (T : TypeId) (cur : Array Value) (fz : Nat × Nat) (w : World) (hbk : w.heap[b]? = some (.cells cs T (0, 0))) (h1 : cs[1]? = some (.slice (some ⟨g, 0, none⟩) l.length cap))
    (hg : w.heap[g]? = some (.cells cur 5 fz)) (hcap : cap ≠ 0) (hcur : l.length ≤ cur.size) (h0 : l ≠ []) (h63 : l.length ≤ 9223372036854775807) (hcells : ∀ j x, l[j]? = some x → w.cell? ⟨g, j, none⟩ = some (.int .u8 x.toNat)) :
    Calls Try.prog 46 #[.pointer (some ⟨b, 0, none⟩)] w fun e w' => e = .returned (.string ⟨l.toArray⟩) ∧ w' = w.drew.freeze ⟨g, 0, none⟩ l.length := by
  have c1 : w.drew.cell? ⟨b, 1, none⟩ = some (.slice (some ⟨g, 0, none⟩) l.length cap) := by
    have : w.drew.heap[b]? = some (.cells cs T (0, 0)) := hbk
    rw [Lib.cell_of_heap this]; exact h1
  have hSD : (Builtin.unsafeSliceData_ #[91] 124 #[.slice (some ⟨g, 0, none⟩) l.length cap]).run Try.prog w.drew = .ok (.pointer (some ⟨g, 0, none⟩)) w.drew :=
    Lib.run_unsafeSliceData_row _ _ _ _ _ _ hcap
  have hUS : (Builtin.unsafeString_ #[124, 3] 9 #[.pointer (some ⟨g, 0, none⟩), .int .i64 l.length]).run Try.prog w.drew = .ok (.string ⟨l.toArray⟩) (w.drew.freeze ⟨g, 0, none⟩ l.length) := by
    refine Lib.run_unsafeString_row w.drew 124 3 9 5 Try.underlying124 (by kernel_rfl) g cur.size (by have hg' : w.drew.heap[g]? = some (.cells cur 5 fz) := hg; simp [World.shape?, hg']) l h0 hcur h63 ?_
    intro j x hx
    rw [add_none, Nat.zero_add]
    exact hcells j x hx
  have mixed : Try.prog.follows .mixedOrders = true := by kernel_rfl
  have t70 := Try.underlying93; have a70 := Try.isAgg93; have z70 := Try.sizeOf93; have v70 := Try.zeroValue93; have u70 := run_underlying Try.underlying93
  have t67 := Try.underlying90; have a67 := Try.isAgg90; have z67 := Try.sizeOf90; have v67 := Try.zeroValue90; have u67 := run_underlying Try.underlying90
  have t68 := Try.underlying91; have a68 := Try.isAgg91; have z68 := Try.sizeOf91; have v68 := Try.zeroValue91; have u68 := run_underlying Try.underlying91
  have t106 := Try.underlying124; have a106 := Try.isAgg124; have z106 := Try.sizeOf124; have v106 := Try.zeroValue124; have u106 := run_underlying Try.underlying124
  have t3 := Try.underlying3; have a3 := Try.isAgg3; have z3 := Try.sizeOf3; have v3 := Try.zeroValue3; have u3 := run_underlying Try.underlying3
  have t9 := Try.underlying9; have a9 := Try.isAgg9; have z9 := Try.sizeOf9; have v9 := Try.zeroValue9; have u9 := run_underlying Try.underlying9
  have t5 := Try.underlying5; have a5 := Try.isAgg5; have z5 := Try.sizeOf5; have v5 := Try.zeroValue5; have u5 := run_underlying Try.underlying5
  go_enter Try.func46, Try.ntmps46
  go_wp2
  go_region_o
  all_goals (go_wp2; go_ret; exact ⟨rfl, rfl⟩)

set_option maxHeartbeats 2000000 in
theorem Bstr_w0 (b : Nat) (cs : Array Value) (T : TypeId) (w : World) (hbk : w.heap[b]? = some (.cells cs T (0, 0))) (h1 : cs[1]? = some (.slice none 0 0)) :
    Calls Try.prog 46 #[.pointer (some ⟨b, 0, none⟩)] w fun e w' => e = .returned (.string ⟨#[]⟩) ∧ w' = w.drew := by
  have c1 : w.drew.cell? ⟨b, 1, none⟩ = some (.slice none 0 0) := by
    have : w.drew.heap[b]? = some (.cells cs T (0, 0)) := hbk
    rw [Lib.cell_of_heap this]; exact h1
  have hSD : (Builtin.unsafeSliceData_ #[91] 124 #[.slice none 0 0]).run Try.prog w.drew = .ok (.pointer none) w.drew := rfl
  have hUS : ∀ (W : World) (q : Option Addr), (Builtin.unsafeString_ #[124, 3] 9 #[.pointer q, .int .i64 0]).run Try.prog W = .ok (.string .empty) W := fun W q => Lib.run_unsafeString_none W _ _ _ q
  have mixed : Try.prog.follows .mixedOrders = true := by kernel_rfl
  have t70 := Try.underlying93; have a70 := Try.isAgg93; have z70 := Try.sizeOf93; have v70 := Try.zeroValue93; have u70 := run_underlying Try.underlying93
  have t67 := Try.underlying90; have a67 := Try.isAgg90; have z67 := Try.sizeOf90; have v67 := Try.zeroValue90; have u67 := run_underlying Try.underlying90
  have t68 := Try.underlying91; have a68 := Try.isAgg91; have z68 := Try.sizeOf91; have v68 := Try.zeroValue91; have u68 := run_underlying Try.underlying91
  have t106 := Try.underlying124; have a106 := Try.isAgg124; have z106 := Try.sizeOf124; have v106 := Try.zeroValue124; have u106 := run_underlying Try.underlying124
  have t3 := Try.underlying3; have a3 := Try.isAgg3; have z3 := Try.sizeOf3; have v3 := Try.zeroValue3; have u3 := run_underlying Try.underlying3
  have t9 := Try.underlying9; have a9 := Try.isAgg9; have z9 := Try.sizeOf9; have v9 := Try.zeroValue9; have u9 := run_underlying Try.underlying9
  have t5 := Try.underlying5; have a5 := Try.isAgg5; have z5 := Try.sizeOf5; have v5 := Try.zeroValue5; have u5 := run_underlying Try.underlying5
  go_enter Try.func46, Try.ntmps46
  go_wp2
  go_region_o
  all_goals (go_wp2; go_ret; exact ⟨rfl, rfl⟩)

theorem Bstr_S (s : St) (b : Nat) (ad : VV) (bs : List UInt8) (o : Own) (d : Int) (ho : OwnOk s o bs.length) (hn : NotOwn o b) (hne : o = .full ∨ bs ≠ []) :
    SRet Try.prog 46 [.ptr b 0] (Wr (s.own o 5 1 bs.length) b ad bs o d) (.str bs) (Wr (s.own o 5 1 bs.length) b ad bs o d) := by
  intro w0 G w vs hS hA
  obtain ⟨u, rfl, hu⟩ := rlist1 hA
  cases hu
  have hob := hS.ok b
  simp only [Wr, St.set_same] at hob
  obtain ⟨hB, hnK, c, hh, hcs, hx⟩ := hob
  obtain ⟨_, v, hv, hr⟩ := hx 1 (.lst (bytesV bs) o) rfl
  have hex : ∀ l : List UInt8, R G (.string ⟨l.toArray⟩) (.str l) := fun l => by simpa using R.str (G := G) l.toArray
  generalize hys : bytesV bs = ys at hr
  cases hr with
  | emp a cap o ho' =>
    have hb0 : bs = [] := by cases bs <;> simp_all [bytesV]
    subst hb0
    rcases ho' with rfl | ⟨rfl, rfl, rfl⟩
    · exact ho.elim
    · refine Calls.mono (Bstr_w0 b c _ w hh hv) fun e w' h => ?_
      obtain ⟨rfl, rfl⟩ := h
      exact ⟨G, _, .ret (.str []), Gh.le.refl G, hS.drew, hex [], rfl, rfl⟩
  | lst g off len cap sz xs' o f hlen hc hz h1 hK hR ho' =>
    rcases ho' with rfl | ⟨rfl, _, hpos⟩ | ⟨rfl, rfl, hcap⟩
    · exact ho.elim
    · simp only [OwnOk] at ho
      have : ys.length = bs.length := by rw [← hys]; simp [bytesV]
      omega
    · have hlb : ys.length = bs.length := by rw [← hys]; simp [bytesV]
      subst hys
      have hgb : ¬ b = g := hn
      have hsg : (Wr (s.own (.at_ g) 5 1 bs.length) b ad bs (.at_ g) d) g = .vec 5 1 bs.length := by
        show ((s.set g (.vec 5 1 bs.length)).set b _) g = _
        rw [St.set_other _ _ (Ne.symm hgb), St.set_same]
      have hog := hS.ok g
      rw [hsg] at hog
      obtain ⟨hBg, cg, capg, fz, hcapg, hhg, hfz, hcsg, hncg, hcmg, hKng⟩ := hog
      rw [hcap] at hcapg
      injection hcapg with hcapg
      simp only [Prod.mk.injEq] at hcapg
      obtain ⟨rfl, rfl⟩ := hcapg
      have hlen2 : len = bs.length := by omega
      subst hlen2
      by_cases h0 : bs = []
      · subst h0
        rcases hne with hne | hne
        · cases hne
        · exact absurd rfl hne
      · have hpos : 0 < bs.length := List.length_pos_iff.2 h0
        refine Calls.mono (Bstr_w b g cap c bs _ cg fz w hh hv hhg (by omega) (by omega) h0 (by simp only [maxLen] at hcmg; omega) ?_) fun e w' h => ?_
        · intro j x hj
          have hlt : j < bs.length := (List.getElem?_eq_some_iff.1 hj).1
          have h2 := hS.K _ _ _ (hK j 0 hlt (by omega))
          have h3 := hR j 0 [.int .u8 (x.toNat : Int)] (.int .u8 (x.toNat : Int)) (by simp [bytesV, hj]) rfl
          generalize f j 0 = v at h2 h3
          cases h3
          simpa using h2
        · obtain ⟨rfl, rfl⟩ := h
          exact ⟨G, _, .ret (.str bs), Gh.le.refl G, hS.drew.freeze hsg (by omega), hex bs, rfl, rfl⟩
end Go.Proofs.Ytejlknplmfmceaa
