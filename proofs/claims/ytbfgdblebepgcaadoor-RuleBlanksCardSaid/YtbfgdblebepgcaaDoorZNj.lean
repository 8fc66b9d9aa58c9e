/- What is proved: Reading rules does not look at places as long as it succeeds: plain facts. Conditions: those that stand in the statements. -/
import Derived.Test.YtbfgdblebepgcaaDoorZTaj
import Derived.Test.YtbfgdblebepgcaaDoorZUrj
set_option linter.unusedSimpArgs false
set_option linter.unusedVariables false
set_option maxRecDepth 100000
namespace Go.Proofs.YtbfgdblebepgcaaDoor
open Go.RowKit

def RlU {α : Type} : PU α → PU α → Prop
  | .ok (a, L), .ok (b, M) => a = b ∧ Sm L M
  | .error _, .error _ => True
  | _, _ => False
theorem RlU.ok {α : Type} {a : α} {L M : List Sgn} (h : Sm L M) : RlU (.ok (a, L)) (.ok (a, M)) := ⟨rfl, h⟩
theorem RlU.err {α : Type} {p q : Nat × Nat} : RlU (.error p : PU α) (.error q) := trivial
theorem RlU.bu {α β : Type} {x y : PU α} {k k' : α → List Sgn → PU β} (h : RlU x y) (hk : ∀ a L M, Sm L M → RlU (k a L) (k' a M)) : RlU (bu x k) (bu y k') := by
  cases x with
  | ok q => cases y with
    | ok r => obtain ⟨a, L⟩ := q; obtain ⟨b, M⟩ := r; obtain ⟨rfl, h⟩ := h; exact hk _ _ _ h
    | error r => exact h.elim
  | error q => cases y with
    | ok r => exact h.elim
    | error r => trivial
theorem RlU.ite {α : Type} {c c' : Prop} [Decidable c] [Decidable c'] {x y x' y' : PU α} (hc : c' = c) (h1 : c → RlU x x') (h2 : ¬ c → RlU y y') : RlU (if c then x else y) (if c' then x' else y') := by
  subst hc
  by_cases h : c'
  · simpa only [if_pos h] using h1 h
  · simpa only [if_neg h] using h2 h
theorem next_sm {L M : List Sgn} (h : Sm L M) (ks : List Int) : nextB ks M = nextB ks L := by
  unfold Sm at h
  cases L <;> cases M <;> simp_all [nextB]
theorem isNum_sm {L M : List Sgn} (h : Sm L M) : isNum M = isNum L := by
  unfold Sm at h
  cases L <;> cases M <;> simp_all [isNum]
section
variable {e e' : Nat} {L M : List Sgn}
theorem RlU.must {t : List UInt8} (h : Sm L M) : RlU (mustU e L t) (mustU e' M t) := by
  unfold mustU; exact RlU.ite (by rw [isT_sm h]) (fun _ => RlU.ok h.tail) (fun _ => RlU.err)
theorem RlU.room {hv mst : Nat} {b : Bool} (h : Sm L M) : RlU (roomU e L hv mst b) (roomU e' M hv mst b) := by
  unfold roomU; exact RlU.ite rfl (fun _ => RlU.err) (fun _ => RlU.ok h)
theorem RlU.kind {k : Nat} (h : Sm L M) : RlU (kindU e L k) (kindU e' M k) := by
  cases L with
  | nil => cases M with
    | nil => exact RlU.err
    | cons y M => have := h.len; simp at this
  | cons x L => cases M with
    | nil => have := h.len; simp at this
    | cons y M =>
      have ht := h
      simp only [Sm, List.map_cons, List.cons.injEq, Prod.mk.injEq] at ht
      simp only [kindU, ht.1.2]
      exact RlU.ite (by rw [ht.1.1]) (fun _ => RlU.ok ht.2) (fun _ => RlU.err)
theorem RlU.name (h : Sm L M) : RlU (nameU e L) (nameU e' M) := RlU.kind h
theorem RlU.num (h : Sm L M) : RlU (numU e L) (numU e' M) := RlU.bu (RlU.kind h) fun _ _ _ h => RlU.ok h
theorem RlU.term (h : Sm L M) : RlU (termU e L) (termU e' M) := by
  unfold termU
  exact RlU.ite (by rw [isNum_sm h]) (fun _ => RlU.bu (RlU.num h) fun _ _ _ h => RlU.ok h) (fun _ => RlU.bu (RlU.name h) fun _ _ _ h => RlU.ok h)
theorem RlU.listGo {α : Type} {one one' : List Sgn → PU α} {ks : List Int} (hone : ∀ L M, Sm L M → RlU (one L) (one' M)) : ∀ (f : Nat) (out : List α) (L M : List Sgn), Sm L M → RlU (listGo e one ks f out L) (listGo e' one' ks f out M)
  | 0, out, L, M, h => RlU.err
  | f + 1, out, L, M, h => by
    simp only [Proofs.YtbfgdblebepgcaaDoor.listGo]
    rw [next_sm h]
    exact RlU.bu (RlU.room h) fun _ L M h => RlU.bu (hone L M h) fun x L M h => RlU.ite (by rw [isT_sm h]) (fun _ => RlU.listGo hone f _ _ _ h.tail) (fun _ => RlU.ok h)
theorem RlU.list {α : Type} {one one' : List Sgn → PU α} {ks : List Int} (hone : ∀ L M, Sm L M → RlU (one L) (one' M)) (h : Sm L M) : RlU (listU e one ks L) (listU e' one' ks M) := by
  unfold listU
  refine RlU.bu (RlU.must h) fun _ L M h => ?_
  rw [h.len]
  exact RlU.bu (RlU.listGo hone _ _ _ _ h) fun xs L M h => RlU.bu (RlU.must h) fun _ L M h => RlU.ok h
theorem RlU.atom {nt : Bool} (h : Sm L M) : RlU (atomU e L nt) (atomU e' M nt) := by
  unfold atomU
  exact RlU.bu (RlU.name h) fun rel L M h => RlU.bu (RlU.list (fun L M h => RlU.term h) h) fun ts L M h => RlU.ok h
theorem RlU.bodyGo : ∀ (f : Nat) (out : List Atm) (L M : List Sgn), Sm L M → RlU (bodyGo e f out L) (bodyGo e' f out M)
  | 0, out, L, M, h => RlU.err
  | f + 1, out, L, M, h => by
    simp only [Proofs.YtbfgdblebepgcaaDoor.bodyGo]
    rw [next_sm h, isT_sm h]
    refine RlU.bu (RlU.room h) fun _ L M h => ?_
    rw [isT_sm h]
    have hM : Sm (if isT L 0 [33] = true then L.tail else L) (if isT L 0 [33] = true then M.tail else M) := by
      split
      · exact h.tail
      · exact h
    exact RlU.bu (RlU.atom hM) fun a L M h => RlU.ite (by rw [isT_sm h]) (fun _ => RlU.bodyGo f _ _ _ h.tail) (fun _ => RlU.ok h)
theorem RlU.rule (h : Sm L M) : RlU (ruleU e L) (ruleU e' M) := by
  unfold ruleU
  refine RlU.bu (RlU.atom h) fun hd L M h => RlU.bu (RlU.ite (by rw [isT_sm h]) (fun _ => ?_) (fun _ => RlU.ok h)) fun b L M h => RlU.bu (RlU.must h) fun _ L M h => RlU.ok h
  rw [h.len]
  exact RlU.bodyGo _ _ _ _ h.tail
theorem RlU.item {x : Pgm} (h : Sm L M) : RlU (itemU e x L) (itemU e' x M) := by
  unfold itemU
  refine RlU.ite (by rw [isT_sm h]) (fun _ => ?_) (fun _ => RlU.ite (by rw [isT_sm h]) (fun _ => ?_) (fun _ => ?_))
  · exact RlU.bu (RlU.room h) fun _ L M h => RlU.bu (RlU.must h) fun _ L M h => RlU.bu (RlU.name h) fun n L M h => RlU.bu (RlU.num h) fun z L M h => RlU.bu (RlU.must h) fun _ L M h => RlU.ok h
  · exact RlU.bu (RlU.room h) fun _ L M h => RlU.bu (RlU.must h) fun _ L M h => RlU.bu (RlU.name h) fun n L M h => RlU.bu (RlU.list (fun L M h => RlU.name h) h) fun z L M h => RlU.bu (RlU.must h) fun _ L M h => RlU.ok h
  · unfold rulU
    rw [next_sm h]
    exact RlU.bu (RlU.room h) fun _ L M h => RlU.bu (RlU.rule h) fun y L M h => RlU.ok h
theorem RlU.items : ∀ (f : Nat) (x : Pgm) (L M : List Sgn), Sm L M → RlU (itemsU e f x L) (itemsU e' f x M)
  | 0, x, L, M, h => RlU.err
  | f + 1, x, L, M, h => by
    simp only [itemsU]
    have hn : (M = []) = (L = []) := by
      have := h.len
      cases L <;> cases M <;> simp_all
    exact RlU.ite hn (fun _ => RlU.ok h) (fun _ => RlU.bu (RlU.item h) fun y L M h => RlU.items f y L M h)
end
theorem parseR_same {l m : List UInt8} {L M : List Sgn} {x : Pgm} (hl : lexSigns l = .ok L) (hm : lexSigns m = .ok M) (h : Sm L M) (hx : parseR l = .ok x) : parseR m = .ok x := by
  rw [parseR_ok hl] at hx
  rw [parseR_ok hm, ← h.len]
  have hr := RlU.items (e := l.length) (e' := m.length) (L.length + 1) ⟨[], [], []⟩ L M h
  cases h1 : itemsU l.length (L.length + 1) ⟨[], [], []⟩ L with
  | error q => rw [h1] at hx; cases hx
  | ok q =>
    cases h2 : itemsU m.length (L.length + 1) ⟨[], [], []⟩ M with
    | error q' => rw [h1, h2] at hr; exact hr.elim
    | ok q' =>
      obtain ⟨a, A⟩ := q
      obtain ⟨b, B⟩ := q'
      rw [h1, h2] at hr
      rw [h1] at hx
      rw [← hr.1]
      exact hx
theorem blT_parseR {l : List UInt8} {L : List Sgn} {x : Pgm} (hl : l.length ≤ 1024) (h : lexSigns l = .ok L) (hx : parseR l = .ok x) (w : Nat) : parseR (blT w L) = .ok x := by
  obtain ⟨_, _, M, hM, hS⟩ := blT_signs hl h w
  exact parseR_same h hM hS hx
end Go.Proofs.YtbfgdblebepgcaaDoor
