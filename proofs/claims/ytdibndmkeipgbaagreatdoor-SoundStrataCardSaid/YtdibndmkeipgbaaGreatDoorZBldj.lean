/- What is proved: What strings.Builder's methods do, where the Builder lies at the head of a writer; What strings.Builder's String hands back, where the Builder lies at the head of a writer. Conditions: those that stand in the statements. -/
import Derived.Test.YtdibndmkeipgbaaGreatDoorZJoin
import Derived.Test.YtdibndmkeipgbaaGreatDoorZLexP
import Derived.Shelf.Strings.BuilderF
set_option linter.unusedSimpArgs false
set_option linter.unusedVariables false
set_option maxRecDepth 100000
namespace Go.Proofs.YtdibndmkeipgbaaGreatDoor
open Go.RowKit

theorem ext_noEscape (x : VV) (s : St) : SExt Tryz.prog 90 [x] s fun e t => e = .ret x ∧ t = s := by
  intro w0 G w vs hS hvs
  obtain ⟨v, rfl, hv⟩ := rlist1 hvs
  refine ⟨v, w, G, s, x, ?_, Gh.le.refl G, hS, hv, rfl, rfl⟩
  have hf := Tryz.func90
  have hn : (Tryz.f90.name == "runtime.NumGoroutine") = false := by kernel_rfl
  have hx : Extern.findNext Tryz.f90 = none := by kernel_rfl
  have hy : Extern.find Tryz.f90 = some Extern.AbiNoEscape.same := by kernel_rfl
  have hb : Tryz.f90.body.isNone = true := by kernel_rfl
  unfold callFunc
  simp only [Sem.run_bind, run_program, Result.andThen_ok, hf, hn, hb, hx, hy, Bool.false_eq_true, if_false, if_true, run_mark, Lib.run_noEscape, Sem.run_pure]

theorem cv_ptr : cv (.pointer none) = .raw (.pointer none) := rfl
theorem nil_ptr : nilB .ptr (.raw (.pointer none)) (.raw (.pointer none)) = some true := rfl
attribute [go_sem] cv_ptr nil_ptr

end Go.Proofs.YtdibndmkeipgbaaGreatDoor
set_option maxRecDepth 100000
namespace Go.Proofs.YtdibndmkeipgbaaGreatDoor
open Go.RowKit

theorem cell?_freeze (w : World) (a p : Addr) (n : Nat) : (w.freeze a n).cell? p = w.cell? p := by
  unfold World.freeze
  split
  · rfl
  · by_cases h : a.block = p.block
    · simp only [World.cell?, Array.getElem?_modify, h, if_true]
      cases w.heap[p.block]? with
      | none => rfl
      | some o => cases o <;> rfl
    · simp only [World.cell?, Array.getElem?_modify, h, if_false]

theorem Sim.freeze {w0 w : World} {G : Gh} {s : St} (hS : Sim w0 G w s) {g k n sz : Nat} {T : TypeId} (hg : s g = .vec T sz n) (hk : k ≤ n * sz) : Sim w0 G (w.freeze ⟨g, 0, none⟩ k) s := by
  have ho := hS.ok g
  rw [hg] at ho
  obtain ⟨hB, c, cap, fz, hcap, hh, hfz, hcs, hnc, hcm, hKn⟩ := ho
  have hsz : (w.freeze ⟨g, 0, none⟩ k).heap.size = w.heap.size := by unfold World.freeze; split <;> simp
  have hoth : ∀ b, b ≠ g → (w.freeze ⟨g, 0, none⟩ k).heap[b]? = w.heap[b]? := fun b hb => by
    unfold World.freeze
    split
    · rfl
    · simp only [Array.getElem?_modify]
      rw [if_neg (by omega)]
  refine ⟨Lib.below_freeze hS.below hB k, fun b i v hv => ?_, fun b q hq => by rw [hsz]; exact hS.cap b q hq, fun b => ?_, hS.gl, hS.rows.keep' (Gh.le.refl G) (by rw [hsz]; exact Nat.le_refl _) (fun b _ hb => ⟨hb, hoth b (by rintro rfl; rw [hg] at hb; cases hb), fun _ => rfl⟩) (fun x T xs rs hx => ⟨hx, hoth x (by rintro rfl; rw [hg] at hx; cases hx)⟩)⟩
  · rw [cell?_freeze]; exact hS.K b i v hv
  · by_cases hb : b = g
    · subst hb
      rw [hg]
      by_cases hk0 : k = 0
      · subst hk0
        exact ⟨hB, c, cap, fz, hcap, by unfold World.freeze; rw [if_pos rfl]; exact hh, hfz, hcs, hnc, hcm, hKn⟩
      · obtain ⟨lo, hi⟩ := fz
        refine ⟨hB, c, cap, _, hcap, by unfold World.freeze; rw [if_neg hk0]; simp only [Array.getElem?_modify, if_true, hh, Option.map_some]; rfl, ?_, hcs, hnc, hcm, hKn⟩
        simp only at hfz ⊢
        split
        · simpa using hk
        · simp only; omega
    · exact (hS.ok b).keep (hoth b hb) (Gh.le.refl G) (fun _ => rfl)

set_option maxHeartbeats 2000000 in
theorem Bstr_w (b g cap : Nat) (cs : Array Value) (l : List UInt8) (T : TypeId) (cur : Array Value) (fz : Nat × Nat) (w : World) (hbk : w.heap[b]? = some (.cells cs T (0, 0))) (h1 : cs[1]? = some (.slice (some ⟨g, 0, none⟩) l.length cap))
    (hg : w.heap[g]? = some (.cells cur 5 fz)) (hcap : cap ≠ 0) (hcur : l.length ≤ cur.size) (h0 : l ≠ []) (h63 : l.length ≤ 9223372036854775807) (hcells : ∀ j x, l[j]? = some x → w.cell? ⟨g, j, none⟩ = some (.int .u8 x.toNat)) :
    Calls Tryz.prog 73 #[.pointer (some ⟨b, 0, none⟩)] w fun e w' => e = .returned (.string ⟨l.toArray⟩) ∧ w' = w.drew.freeze ⟨g, 0, none⟩ l.length := by
  have c1 : w.drew.cell? ⟨b, 1, none⟩ = some (.slice (some ⟨g, 0, none⟩) l.length cap) := by
    have : w.drew.heap[b]? = some (.cells cs T (0, 0)) := hbk
    rw [Lib.cell_of_heap this]; exact h1
  have hSD : (Builtin.unsafeSliceData_ #[121] 147 #[.slice (some ⟨g, 0, none⟩) l.length cap]).run Tryz.prog w.drew = .ok (.pointer (some ⟨g, 0, none⟩)) w.drew :=
    Lib.run_unsafeSliceData_row _ _ _ _ _ _ hcap
  have hUS : (Builtin.unsafeString_ #[147, 3] 9 #[.pointer (some ⟨g, 0, none⟩), .int .i64 l.length]).run Tryz.prog w.drew = .ok (.string ⟨l.toArray⟩) (w.drew.freeze ⟨g, 0, none⟩ l.length) := by
    refine Lib.run_unsafeString_row w.drew 147 3 9 5 Tryz.underlying147 (by kernel_rfl) g cur.size (by have hg' : w.drew.heap[g]? = some (.cells cur 5 fz) := hg; simp [World.shape?, hg']) l h0 hcur h63 ?_
    intro j x hx
    rw [add_none, Nat.zero_add]
    exact hcells j x hx
  have mixed : Tryz.prog.follows .mixedOrders = true := by kernel_rfl
  have t70 := Tryz.underlying130; have a70 := Tryz.isAgg130; have z70 := Tryz.sizeOf130; have v70 := Tryz.zeroValue130; have u70 := run_underlying Tryz.underlying130
  have t67 := Tryz.underlying128; have a67 := Tryz.isAgg128; have z67 := Tryz.sizeOf128; have v67 := Tryz.zeroValue128; have u67 := run_underlying Tryz.underlying128
  have t68 := Tryz.underlying121; have a68 := Tryz.isAgg121; have z68 := Tryz.sizeOf121; have v68 := Tryz.zeroValue121; have u68 := run_underlying Tryz.underlying121
  have t106 := Tryz.underlying147; have a106 := Tryz.isAgg147; have z106 := Tryz.sizeOf147; have v106 := Tryz.zeroValue147; have u106 := run_underlying Tryz.underlying147
  have t3 := Tryz.underlying3; have a3 := Tryz.isAgg3; have z3 := Tryz.sizeOf3; have v3 := Tryz.zeroValue3; have u3 := run_underlying Tryz.underlying3
  have t9 := Tryz.underlying9; have a9 := Tryz.isAgg9; have z9 := Tryz.sizeOf9; have v9 := Tryz.zeroValue9; have u9 := run_underlying Tryz.underlying9
  have t5 := Tryz.underlying5; have a5 := Tryz.isAgg5; have z5 := Tryz.sizeOf5; have v5 := Tryz.zeroValue5; have u5 := run_underlying Tryz.underlying5
  go_enter Tryz.func73, Tryz.ntmps73
  go_wp2
  go_region_o
  all_goals (go_wp2; go_ret; exact ⟨rfl, rfl⟩)

set_option maxHeartbeats 2000000 in
theorem Bstr_w0 (b : Nat) (cs : Array Value) (T : TypeId) (w : World) (hbk : w.heap[b]? = some (.cells cs T (0, 0))) (h1 : cs[1]? = some (.slice none 0 0)) :
    Calls Tryz.prog 73 #[.pointer (some ⟨b, 0, none⟩)] w fun e w' => e = .returned (.string ⟨#[]⟩) ∧ w' = w.drew := by
  have c1 : w.drew.cell? ⟨b, 1, none⟩ = some (.slice none 0 0) := by
    have : w.drew.heap[b]? = some (.cells cs T (0, 0)) := hbk
    rw [Lib.cell_of_heap this]; exact h1
  have hSD : (Builtin.unsafeSliceData_ #[121] 147 #[.slice none 0 0]).run Tryz.prog w.drew = .ok (.pointer none) w.drew := rfl
  have hUS : ∀ (W : World) (q : Option Addr), (Builtin.unsafeString_ #[147, 3] 9 #[.pointer q, .int .i64 0]).run Tryz.prog W = .ok (.string .empty) W := fun W q => Lib.run_unsafeString_none W _ _ _ q
  have mixed : Tryz.prog.follows .mixedOrders = true := by kernel_rfl
  have t70 := Tryz.underlying130; have a70 := Tryz.isAgg130; have z70 := Tryz.sizeOf130; have v70 := Tryz.zeroValue130; have u70 := run_underlying Tryz.underlying130
  have t67 := Tryz.underlying128; have a67 := Tryz.isAgg128; have z67 := Tryz.sizeOf128; have v67 := Tryz.zeroValue128; have u67 := run_underlying Tryz.underlying128
  have t68 := Tryz.underlying121; have a68 := Tryz.isAgg121; have z68 := Tryz.sizeOf121; have v68 := Tryz.zeroValue121; have u68 := run_underlying Tryz.underlying121
  have t106 := Tryz.underlying147; have a106 := Tryz.isAgg147; have z106 := Tryz.sizeOf147; have v106 := Tryz.zeroValue147; have u106 := run_underlying Tryz.underlying147
  have t3 := Tryz.underlying3; have a3 := Tryz.isAgg3; have z3 := Tryz.sizeOf3; have v3 := Tryz.zeroValue3; have u3 := run_underlying Tryz.underlying3
  have t9 := Tryz.underlying9; have a9 := Tryz.isAgg9; have z9 := Tryz.sizeOf9; have v9 := Tryz.zeroValue9; have u9 := run_underlying Tryz.underlying9
  have t5 := Tryz.underlying5; have a5 := Tryz.isAgg5; have z5 := Tryz.sizeOf5; have v5 := Tryz.zeroValue5; have u5 := run_underlying Tryz.underlying5
  go_enter Tryz.func73, Tryz.ntmps73
  go_wp2
  go_region_o
  all_goals (go_wp2; go_ret; exact ⟨rfl, rfl⟩)

end Go.Proofs.YtdibndmkeipgbaaGreatDoor
