/- What is proved: Writing into a Builder, whatever else memory holds. Conditions: what is written has at most 2^47 bytes. Conditions: those that stand in the statements. -/
import Derived.Test.YtbfgdblebepgcaaDoorZUn
set_option linter.unusedSimpArgs false
set_option linter.unusedVariables false
set_option maxRecDepth 100000
namespace Go.Proofs.YtbfgdblebepgcaaDoor
open Go.RowKit

theorem uown_disown {t : St} {o : Own} {T : TypeId} {sz n : Nat} (h : Owned t o T sz n) : (t.disown o).own o T sz n = t := by
  cases o with
  | no => rfl
  | full => rfl
  | at_ b =>
    funext x
    simp only [Owned] at h
    simp only [St.own, St.disown, St.set]
    by_cases hx : x = b
    · subst hx; simp [h]
    · simp [hx]
theorem uownok_disown {t : St} {o : Own} {T : TypeId} {sz n : Nat} (h : Owned t o T sz n) : OwnOk (t.disown o) o n := by
  cases o with
  | no => exact h
  | full => exact h
  | at_ b => simp [OwnOk, St.disown, St.set]
theorem Wb_out {s : St} {r b : Nat} {xs : List VV} {c : Cell} (h : ¬ b = r) : (s.set r (.obj 57 xs)).set b c = (s.set b c).set r (.obj 57 xs) := by
  funext x
  simp only [St.set]
  by_cases h1 : x = b
  · subst h1; simp [h]
  · simp [h1]
def AdB (b : Nat) (ad : VV) : Prop := ad = .raw (.pointer none) ∨ ad = .ptr b 0
abbrev WbS (t : St) (b : Nat) (o : Own) (bs' : List UInt8) (q : Own × VV) : St := Wb ((t.disown o).own q.1 5 1 bs'.length) b q.2 bs' q.1
def WbO (t : St) (b : Nat) (o : Own) (bs' : List UInt8) (q : Own × VV) : Prop := OwnOk (t.disown o) q.1 bs'.length ∧ NotOwn q.1 b ∧ AdB b q.2
theorem Cw_S (t : St) (b : Nat) (ad : VV) (bs : List UInt8) (o : Own) (x : List UInt8) (had : AdB b ad) (hO : Owned t o 5 1 bs.length) (hn : NotOwn o b) (hl : bs.length + x.length ≤ 140737488355328) :
    SCalls Tryd.prog 16 [.ptr b 0, .str x] (Wb t b ad bs o) fun e u => ∃ q : Own × VV, e = .ret (.tup [.int .i64 (x.length : Int), .raw .nilIface]) ∧ u = WbS t b o (bs ++ x) q ∧ WbO t b o (bs ++ x) q := by
  have := Cwrite_S (t.disown o) b ad bs o x had (uownok_disown hO) hn hl
  rw [uown_disown hO] at this
  refine this.mono ?_
  rintro e u ⟨o', h1, h2, h3, h4⟩
  exact ⟨(o', .ptr b 0), h1, h2, h3, h4, .inr rfl⟩
theorem Cs_S (t : St) (b : Nat) (ad : VV) (bs : List UInt8) (o : Own) (hO : Owned t o 5 1 bs.length) (hn : NotOwn o b) (hne : o = .full ∨ bs ≠ []) : SRet Tryd.prog 20 [.ptr b 0] (Wb t b ad bs o) (.str bs) (Wb t b ad bs o) := by
  have := Cstr_S (t.disown o) b ad bs o (uownok_disown hO) hn hne
  rwa [uown_disown hO] at this
/-- What is printed. -/
def dmT (d : Dm) : List UInt8 := [100, 111, 109, 32] ++ d.name ++ [32] ++ Lib.itoa d.size ++ [46, 10]
end Go.Proofs.YtbfgdblebepgcaaDoor
