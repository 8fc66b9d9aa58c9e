/- What is proved: Writing into a Builder, whatever else memory holds. Conditions: what is written has at most 2^47 bytes; Programs as text: what is printed, and how long it is. Conditions: those that stand in the statements. -/
import Derived.Test.YtdibndmkeipgbaaGreatDoorZUlj
import Derived.Lib.ItoaLen
set_option linter.unusedSimpArgs false
set_option linter.unusedVariables false
set_option maxRecDepth 100000
namespace Go.Proofs.YtdibndmkeipgbaaGreatDoor
open Go.RowKit

theorem uown_disown {t : St} {o : Own} {T : TypeId} {sz n : Nat} (h : Owned t o T sz n) : (t.disown o).own o T sz n = t := by
  cases o with
  | no => rfl
  | full => rfl
  | at_ b =>
    funext x
    simp only [Owned] at h
    simp only [St.own, St.disown, St.set]
    by_cases hx : x = b
    · subst hx; simp [h]
    · simp [hx]
theorem uownok_disown {t : St} {o : Own} {T : TypeId} {sz n : Nat} (h : Owned t o T sz n) : OwnOk (t.disown o) o n := by
  cases o with
  | no => exact h
  | full => exact h
  | at_ b => simp [OwnOk, St.disown, St.set]
theorem Wb_out {s : St} {r b : Nat} {xs : List VV} {c : Cell} (h : ¬ b = r) : (s.set r (.obj 130 xs)).set b c = (s.set b c).set r (.obj 130 xs) := by
  funext x
  simp only [St.set]
  by_cases h1 : x = b
  · subst h1; simp [h]
  · simp [h1]
def AdB (b : Nat) (ad : VV) : Prop := ad = .raw (.pointer none) ∨ ad = .ptr b 0
abbrev WbS (t : St) (b : Nat) (o : Own) (bs' : List UInt8) (q : Own × VV) : St := Wb ((t.disown o).own q.1 5 1 bs'.length) b q.2 bs' q.1
def WbO (t : St) (b : Nat) (o : Own) (bs' : List UInt8) (q : Own × VV) : Prop := OwnOk (t.disown o) q.1 bs'.length ∧ NotOwn q.1 b ∧ AdB b q.2
theorem Cw_S (t : St) (b : Nat) (ad : VV) (bs : List UInt8) (o : Own) (x : List UInt8) (had : AdB b ad) (hO : Owned t o 5 1 bs.length) (hn : NotOwn o b) (hl : bs.length + x.length ≤ 140737488355328) :
    SCalls Tryz.prog 68 [.ptr b 0, .str x] (Wb t b ad bs o) fun e u => ∃ q : Own × VV, e = .ret (.tup [.int .i64 (x.length : Int), .raw .nilIface]) ∧ u = WbS t b o (bs ++ x) q ∧ WbO t b o (bs ++ x) q := by
  have := Cwrite_S (t.disown o) b ad bs o x had (uownok_disown hO) hn hl
  rw [uown_disown hO] at this
  refine this.mono ?_
  rintro e u ⟨o', h1, h2, h3, h4⟩
  exact ⟨(o', .ptr b 0), h1, h2, h3, h4, .inr rfl⟩
theorem Cs_S (t : St) (b : Nat) (ad : VV) (bs : List UInt8) (o : Own) (hO : Owned t o 5 1 bs.length) (hn : NotOwn o b) (hne : o = .full ∨ bs ≠ []) : SRet Tryz.prog 73 [.ptr b 0] (Wb t b ad bs o) (.str bs) (Wb t b ad bs o) := by
  have := Cstr_S (t.disown o) b ad bs o (uownok_disown hO) hn hne
  rwa [uown_disown hO] at this
/-- What is printed. -/
def dmT (d : Dm) : List UInt8 := [100, 111, 109, 32] ++ d.name ++ [32] ++ Lib.itoa d.size ++ [46, 10]
end Go.Proofs.YtdibndmkeipgbaaGreatDoor
set_option maxRecDepth 100000
namespace Go.Proofs.YtdibndmkeipgbaaGreatDoor
open Go.RowKit

def dclT (d : Dcl) : List UInt8 := [114, 101, 108, 32] ++ d.name ++ [40] ++ Lib.join d.doms [44, 32] ++ [41, 46, 10]
def rulT (x : Rul) : List UInt8 := atmT x.head ++ (if x.body = [] then [] else [32, 58, 45, 32] ++ Lib.join (x.body.map atmT) [44, 32]) ++ [46, 10]
def pgmT (x : Pgm) : List UInt8 := (x.doms.map dmT).flatten ++ (x.decls.map dclT).flatten ++ (x.rules.map rulT).flatten
theorem nameB_len {t : List UInt8} (h : nameB t = true) : t.length ≤ 32 := by
  simp only [nameB, signB, Bool.and_eq_true, decide_eq_true_eq] at h
  have h2 := oneK_le32 t
  rw [h.2] at h2
  exact h2
theorem trm_small {t : Trm} (h : trmB t = true) : (trmT t).length ≤ 32 ∧ -9223372036854775808 ≤ t.n ∧ t.n ≤ 9223372036854775807 := by
  unfold trmB at h
  unfold trmT
  split at h
  · rename_i hv
    simp only [Bool.and_eq_true, decide_eq_true_eq] at h
    rw [if_pos hv, h.2]
    exact ⟨nameB_len h.1, by omega, by omega⟩
  · rename_i hv
    simp only [Bool.and_eq_true, decide_eq_true_eq] at h
    rw [if_neg hv]
    have := Lib.itoa_length_le t.n (by omega) (by omega)
    exact ⟨by omega, by omega, by omega⟩
theorem ujoin_le {α : Type} {f : α → List UInt8} {l : List α} {m k : Nat} (hl : l.length ≤ k) (h : ∀ x, x ∈ l → (f x).length ≤ m) : (Lib.join (l.map f) [44, 32]).length ≤ k * (m + 2) := by
  have h1 := join_len m [44, 32] (l.map f) (fun t ht => by
    obtain ⟨x, hx, rfl⟩ := List.mem_map.1 ht
    exact h x hx)
  rw [List.length_map] at h1
  exact Nat.le_trans h1 (Nat.mul_le_mul_right _ hl)
theorem atm_small {a : Atm} (h : atmB a = true) : AtmS a ∧ (atmT a).length ≤ 400 := by
  simp only [atmB, Bool.and_eq_true, decide_eq_true_eq, List.all_eq_true] at h
  obtain ⟨⟨⟨h1, h2⟩, h3⟩, h4⟩ := h
  have h5 := nameB_len h2
  have h6 := ujoin_le (f := trmT) (m := 32) h4 (fun t ht => (trm_small (h1 t ht)).1)
  refine ⟨⟨by omega, by omega, fun t ht => ⟨by have := (trm_small (h1 t ht)).1; omega, (trm_small (h1 t ht)).2⟩⟩, ?_⟩
  unfold atmT
  split <;> simp only [List.length_append, List.length_cons, List.length_nil] <;> omega
theorem dm_small {d : Dm} (h : dmB d = true) : (dmT d).length ≤ 100 ∧ 0 ≤ d.size ∧ d.size ≤ 9999999999 ∧ d.name.length ≤ 32 := by
  simp only [dmB, Bool.and_eq_true, decide_eq_true_eq] at h
  obtain ⟨⟨h1, h2⟩, h3⟩ := h
  have h5 := nameB_len h1
  have := Lib.itoa_length_le d.size (by omega) (by omega)
  refine ⟨?_, h2, h3, h5⟩
  simp only [dmT, List.length_append, List.length_cons, List.length_nil]
  omega
theorem dcl_small {d : Dcl} (h : dclB d = true) : (dclT d).length ≤ 400 ∧ d.name.length ≤ 32 ∧ d.doms.length ≤ 8 ∧ (Lib.join d.doms [44, 32]).length ≤ 8 * 34 := by
  simp only [dclB, Bool.and_eq_true, decide_eq_true_eq, List.all_eq_true] at h
  obtain ⟨⟨⟨h1, h2⟩, h3⟩, h4⟩ := h
  have h5 := nameB_len h1
  have h6 := ujoin_le (f := id) (m := 32) h3 (fun t ht => nameB_len (h4 t ht))
  rw [List.map_id] at h6
  refine ⟨?_, h5, h3, h6⟩
  simp only [dclT, List.length_append, List.length_cons, List.length_nil]
  omega
theorem rul_small {x : Rul} (h : rulB x = true) : (rulT x).length ≤ 4000 ∧ AtmS x.head ∧ (atmT x.head).length ≤ 400 ∧ x.body.length ≤ 8 ∧ (∀ a, a ∈ x.body → AtmS a) ∧ (Lib.join (x.body.map atmT) [44, 32]).length ≤ 8 * 402 := by
  simp only [rulB, Bool.and_eq_true, decide_eq_true_eq, List.all_eq_true] at h
  obtain ⟨⟨⟨⟨⟨h1, h2⟩, h3⟩, h4⟩, h5⟩, h6⟩ := h
  have h7 := atm_small h1
  have h8 := ujoin_le (f := atmT) (m := 400) h5 (fun t ht => (atm_small (h6 t ht)).2)
  refine ⟨?_, h7.1, h7.2, h5, fun a ha => (atm_small (h6 a ha)).1, h8⟩
  unfold rulT
  split <;> simp only [List.length_append, List.length_cons, List.length_nil] <;> omega
theorem flat_le {α : Type} {f : α → List UInt8} {m : Nat} : ∀ {l : List α}, (∀ x, x ∈ l → (f x).length ≤ m) → (l.map f).flatten.length ≤ l.length * m
  | [], _ => by simp
  | x :: l, h => by
    have h1 := h x (by simp)
    have h2 := flat_le (l := l) fun y hy => h y (by simp [hy])
    simp only [List.map_cons, List.flatten_cons, List.length_append, List.length_cons, Nat.succ_mul]
    omega
theorem flat_at {α : Type} {f : α → List UInt8} {l : List α} {i : Nat} {x : α} (h : l[i]? = some x) : ((l.take (i + 1)).map f).flatten = ((l.take i).map f).flatten ++ f x := by
  rw [utake h]; simp
end Go.Proofs.YtdibndmkeipgbaaGreatDoor
