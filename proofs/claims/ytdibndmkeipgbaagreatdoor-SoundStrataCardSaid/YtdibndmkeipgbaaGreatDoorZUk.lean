/- What is proved: What rule.Parse hands back. Conditions: those that stand in the statements. -/
import Derived.Test.YtdibndmkeipgbaaGreatDoorZUhj
import Derived.Test.YtdibndmkeipgbaaGreatDoorZDrawj
set_option linter.unusedSimpArgs false
set_option linter.unusedVariables false
set_option maxRecDepth 100000
namespace Go.Proofs.YtdibndmkeipgbaaGreatDoor
open Go.RowKit
def itemsU (e : Nat) : Nat → Pgm → List Sgn → PU Pgm
  | 0, _, _ => .error (0, 0)
  | f + 1, x, L => if L = [] then .ok (x, L) else bu (itemU e x L) fun x L => itemsU e f x L
def unU : PU Pgm → Except (Nat × Nat) Pgm
  | .ok (x, _) => .ok x
  | .error q => .error q
def parseR (l : List UInt8) : Except (Nat × Nat) Pgm :=
  match lexSigns l with
  | .error x => .error x
  | .ok L => unU (itemsU l.length (L.length + 1) ⟨[], [], []⟩ L)
theorem parseR_ok {l : List UInt8} {L : List Sgn} (h : lexSigns l = .ok L) : parseR l = unU (itemsU l.length (L.length + 1) ⟨[], [], []⟩ L) := by unfold parseR; rw [h]
theorem GS.pg0 {S : St} {b2 : Nat} (h : S b2 = .obj 26 [.lst [] .full, .lst [] .full, .lst [] .full]) : GS S (S.set b2 (.pk 26 (pgC ⟨[], [], []⟩) rsP)) := by
  have g1 := GS.topk h
  have hd : ∀ t : St, t.disown .full = t := fun _ => rfl
  have g2 := GS.pack (i := 0) (l := []) (o := .full) (T' := 42) (sz := 2) (rs' := [(0, 42, 2)]) (St.set_same S b2 (.pk 26 [.lst [] .full, .lst [] .full, .lst [] .full] [])) rfl rfl (by simp)
  rw [hd, St.set_set] at g2
  have g3 := GS.pack (i := 1) (l := []) (o := .full) (T' := 44) (sz := 2) (rs' := [(0, 42, 2), (1, 44, 2)]) (St.set_same S b2 (.pk 26 [.lst [] .no, .lst [] .full, .lst [] .full] [(0, 42, 2)])) rfl rfl (by simp)
  rw [hd, St.set_set] at g3
  have g4 := GS.pack (i := 2) (l := []) (o := .full) (T' := 50) (sz := 4) (rs' := rsP) (St.set_same S b2 (.pk 26 [.lst [] .no, .lst [] .no, .lst [] .full] [(0, 42, 2), (1, 44, 2)])) rfl rfl (by simp)
  rw [hd, St.set_set] at g4
  exact g1.trans (g2.trans (g3.trans g4))
theorem lexGo_errU : ∀ (f : Nat) (s : List UInt8) (at_ : Nat) (out : List Sgn) (a e : Nat), lexGo f s at_ out = .error (a, e) → e ≠ 0
  | 0, s, at_, out, a, e, h => by cases h
  | f + 1, s, at_, out, a, e, h => by
    simp only [lexGo] at h
    cases hd : s.drop (runN blankB s) with
    | nil => rw [hd] at h; cases h
    | cons c r =>
      rw [hd] at h
      simp only at h
      split at h
      · exact lexGo_errU f _ _ _ _ _ h
      · split at h
        · injection h with h; injection h with h1 h2; subst h2; decide
        · split at h
          · injection h with h; injection h with h1 h2; subst h2; decide
          · exact lexGo_errU f _ _ _ _ _ h
theorem lexSigns_errU {s : List UInt8} {a e : Nat} (h : lexSigns s = .error (a, e)) : e ≠ 0 := by
  unfold lexSigns at h
  split at h
  · injection h with h; injection h with h1 h2; subst h2; decide
  · exact lexGo_errU _ _ _ _ _ _ h
end Go.Proofs.YtdibndmkeipgbaaGreatDoor
