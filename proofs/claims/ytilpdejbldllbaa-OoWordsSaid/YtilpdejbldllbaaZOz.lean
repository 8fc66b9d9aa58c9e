/- What is proved: What is read of a text is a source that may be. Conditions: those that stand in the statements. -/
import Derived.Test.YtilpdejbldllbaaZOwj
set_option linter.unusedSimpArgs false
set_option linter.unusedVariables false
set_option maxRecDepth 100000
namespace Go.Proofs.Ytilpdejbldllbaa
open Go.RowKit

theorem ris_name (t : List UInt8) : RisB 1 t = signB ⟨1, t, 0⟩ := by
  unfold RisB signB
  have := oneK_le32 t
  by_cases h0 : t = []
  · simp [h0]
  · by_cases h1 : oneK t = (1, t.length)
    · have h2 : t.length ≤ 32 := by rw [h1] at this; exact this
      simp [h0, h1, h2]
    · simp [h0, h1]
theorem rname (t : List UInt8) : RnameB t = isNameB t := by unfold RnameB isNameB; rw [ris_name]
theorem GoodL.sub {L L' : List Sgn} (h : GoodL L) (hs : ∀ y, y ∈ L' → y ∈ L) : GoodL L' := fun x hx => h x (hs x hx)
theorem tail_sub {L : List Sgn} : ∀ y, y ∈ L.tail → y ∈ L := fun _ h => List.mem_of_mem_tail h
theorem GoodL.tail {L : List Sgn} (h : GoodL L) : GoodL L.tail := h.sub tail_sub
theorem mustP_t {e : Nat} {L L' : List Sgn} {n n' : Nat} {t : List UInt8} {u : Unit} (h : mustP e L n t = .ok (u, L', n')) : L' = L.tail ∧ n' = n ∧ isT L 0 t = true := by
  unfold mustP at h
  split at h
  · rename_i ht
    obtain ⟨_, rfl, rfl⟩ := ok_inj h; exact ⟨rfl, rfl, ht⟩
  · cases h
theorem nameP_g {e : Nat} {L L' : List Sgn} {n n' : Nat} {x : List UInt8} (hG : GoodL L) (h : nameP e L n = .ok (x, L', n')) : isNameB x = true ∧ L' = L.tail ∧ n' = n ∧ namedB L = true := by
  cases L with
  | nil => cases h
  | cons s r =>
    simp only [nameP] at h
    split at h
    · rename_i hn
      obtain ⟨rfl, rfl, rfl⟩ := ok_inj h
      have hg := hG s (by simp)
      simp only [namedB, Bool.and_eq_true] at hn
      refine ⟨?_, rfl, rfl, by simpa [namedB] using hn⟩
      rw [hn.1, ris_name] at hg
      simp only [isNameB, ← hg, hn.2, Bool.and_self]
    · cases h
theorem namesGo_g {e : Nat} : ∀ (f : Nat) (out : List (List UInt8)) (L L' : List Sgn) (n n' : Nat) (r : List (List UInt8)), GoodL L → out.all isNameB = true → out.length ≤ 8 → namesGo e f out L n = .ok (r, L', n') →
    namesB r = true ∧ (∀ y, y ∈ L' → y ∈ L) ∧ n' = n
  | 0, out, L, L', n, n', r, _, ho, hl, h => by
    simp only [namesGo] at h
    obtain ⟨rfl, rfl, rfl⟩ := ok_inj h
    exact ⟨by simp [namesB, hl, ho], fun _ h => h, rfl⟩
  | f + 1, out, L, L', n, n', r, hG, ho, hl, h => by
    simp only [namesGo] at h
    split at h
    · obtain ⟨rfl, rfl, rfl⟩ := ok_inj h
      exact ⟨by simp [namesB, hl, ho], tail_sub, rfl⟩
    · replace h := bnd_inv h
      obtain ⟨_, L1, n1, h1, h⟩ := h
      have hs1 : (∀ y, y ∈ L1 → y ∈ L) ∧ n1 = n := by
        split at h1
        · obtain ⟨rfl, rfl, _⟩ := mustP_t h1; exact ⟨tail_sub, rfl⟩
        · obtain ⟨_, rfl, rfl⟩ := ok_inj h1; exact ⟨fun _ h => h, rfl⟩
      obtain ⟨hs1, rfl⟩ := hs1
      replace h := bnd_inv h
      obtain ⟨_, L2, n2, h2, h⟩ := h
      have hroom := h2
      obtain ⟨rfl, rfl⟩ := roomP_eq h2
      replace h := bnd_inv h
      obtain ⟨x, L3, n3, h3, h⟩ := h
      obtain ⟨hx, rfl, rfl, hnm⟩ := nameP_g (hG.sub hs1) h3
      have h8 : out.length < 8 := by
        unfold roomP at hroom
        split at hroom
        · cases hroom
        · rename_i hc; rcases Nat.lt_or_ge out.length 8 with h | h
          · exact h
          · exact absurd ⟨h, hnm⟩ hc
      obtain ⟨a1, a2, a3⟩ := namesGo_g f _ _ _ _ _ _ ((hG.sub hs1).tail) (by rw [List.all_append, ho]; simp [hx]) (by simp; omega) h
      exact ⟨a1, fun y hy => hs1 y (tail_sub y (a2 y hy)), a3⟩
theorem namesP_g {e : Nat} {L L' : List Sgn} {n n' : Nat} {r : List (List UInt8)} (hG : GoodL L) (h : namesP e L n = .ok (r, L', n')) : namesB r = true ∧ (∀ y, y ∈ L' → y ∈ L) ∧ n' = n := by
  unfold namesP at h
  replace h := bnd_inv h
  obtain ⟨_, L1, n1, h1, h⟩ := h
  obtain ⟨rfl, rfl, _⟩ := mustP_t h1
  obtain ⟨a1, a2, a3⟩ := namesGo_g _ _ _ _ _ _ _ hG.tail rfl (by simp) h
  exact ⟨a1, fun y hy => tail_sub y (a2 y hy), a3⟩
/-- A statement of names that may be, and holds no others. -/
def OneS (x : Stm) : Prop := mayB x = true ∧ totS x = 1 ∧ ∀ dp, okS x dp = true
theorem OneS.mk {k : Int} {d s c m : List UInt8} {ar : List (List UInt8)} {o t : List Stm} (h : mayB (.mk k d s c m ar o t) = true) (h8 : ¬ k = 8) (h9 : ¬ k = 9) : OneS (.mk k d s c m ar o t) :=
  ⟨h, by simp [totS, h8, h9], fun dp => by simp [okS, h, h8, h9]⟩
theorem callP_g {e : Nat} {L L' : List Sgn} {n n' : Nat} {d m : List UInt8} {b : Bool} {x : Stm} (hG : GoodL L) (hd : d = [] ∨ isNameB d = true) (hb : b = true → isNameB d = true) (hm : isNameB m = true) (h : callP e d m b L n = .ok (x, L', n')) :
    OneS x ∧ (∀ y, y ∈ L' → y ∈ L) ∧ n' = n := by
  unfold callP at h
  have hd' : (d.isEmpty || isNameB d) = true := by rcases hd with rfl | hd <;> simp [*]
  split at h
  · replace h := bnd_inv h
    obtain ⟨y, L1, n1, h1, h⟩ := h
    obtain ⟨hy, rfl, rfl, _⟩ := nameP_g hG.tail h1
    replace h := bnd_inv h
    obtain ⟨ar, L2, n2, h2, h⟩ := h
    obtain ⟨har, hs, rfl⟩ := namesP_g hG.tail.tail h2
    obtain ⟨rfl, rfl, rfl⟩ := ok_inj h
    exact ⟨OneS.mk (by simp [mayB, needL, hy, hm, har, hd']) (by omega) (by omega), fun y hy => tail_sub y (tail_sub y (hs y hy)), rfl⟩
  · replace h := bnd_inv h
    obtain ⟨_, L1, n1, h1, h⟩ := h
    obtain ⟨rfl, rfl, _⟩ := mustP_t h1
    replace h := bnd_inv h
    obtain ⟨y, L2, n2, h2, h⟩ := h
    obtain ⟨hy, rfl, rfl, _⟩ := nameP_g hG.tail h2
    split at h
    · rename_i hc
      obtain ⟨rfl, rfl, rfl⟩ := ok_inj h
      exact ⟨OneS.mk (by simp [mayB, needL, hy, hm, hb hc.1]) (by omega) (by omega), fun y hy => tail_sub y (tail_sub y hy), rfl⟩
    · replace h := bnd_inv h
      obtain ⟨ar, L3, n3, h3, h⟩ := h
      obtain ⟨har, hs, rfl⟩ := namesP_g hG.tail.tail h3
      obtain ⟨rfl, rfl, rfl⟩ := ok_inj h
      exact ⟨OneS.mk (by simp [mayB, needL, hy, hm, har, hd']) (by omega) (by omega), fun y hy => tail_sub y (tail_sub y (hs y hy)), rfl⟩
theorem plainP_g {e : Nat} {L L' : List Sgn} {n n' : Nat} {x : Stm} (hG : GoodL L) (h : plainP e L n = .ok (x, L', n')) : OneS x ∧ (∀ y, y ∈ L' → y ∈ L) ∧ n' = n ∧ namedB L = true := by
  unfold plainP at h
  replace h := bnd_inv h
  obtain ⟨first, L1, n1, h1, h⟩ := h
  obtain ⟨hf, rfl, rfl, hnm⟩ := nameP_g hG h1
  have s1 : ∀ y, y ∈ L.tail → y ∈ L := tail_sub
  split at h
  · split at h
    · replace h := bnd_inv h
      obtain ⟨y, L2, n2, h2, h⟩ := h
      obtain ⟨hy, rfl, rfl, _⟩ := nameP_g hG.tail.tail.tail h2
      obtain ⟨rfl, rfl, rfl⟩ := ok_inj h
      exact ⟨OneS.mk (by simp [mayB, needL, hy, hf]) (by omega) (by omega), fun y hy => s1 y (tail_sub y (tail_sub y (tail_sub y hy))), rfl, hnm⟩
    · replace h := bnd_inv h
      obtain ⟨src, L2, n2, h2, h⟩ := h
      obtain ⟨hy, rfl, rfl, _⟩ := nameP_g hG.tail.tail h2
      split at h
      · replace h := bnd_inv h
        obtain ⟨z, L3, n3, h3, h⟩ := h
        obtain ⟨hz, hs, rfl⟩ := callP_g hG.tail.tail.tail (.inr hf) (fun _ => hf) hy h3
        obtain ⟨rfl, rfl, rfl⟩ := ok_inj h
        exact ⟨hz, fun y hy => s1 y (tail_sub y (tail_sub y (hs y hy))), rfl, hnm⟩
      · obtain ⟨rfl, rfl, rfl⟩ := ok_inj h
        exact ⟨OneS.mk (by simp [mayB, needL, hy, hf]) (by omega) (by omega), fun y hy => s1 y (tail_sub y (tail_sub y hy)), rfl, hnm⟩
  · split at h
    · replace h := bnd_inv h
      obtain ⟨_, L2, n2, h2, h⟩ := h
      obtain ⟨rfl, rfl, _⟩ := mustP_t h2
      replace h := bnd_inv h
      obtain ⟨y, L3, n3, h3, h⟩ := h
      obtain ⟨hy, rfl, rfl, _⟩ := nameP_g hG.tail.tail h3
      replace h := bnd_inv h
      obtain ⟨_, L4, n4, h4, h⟩ := h
      obtain ⟨rfl, rfl, _⟩ := mustP_t h4
      replace h := bnd_inv h
      obtain ⟨src, L5, n5, h5, h⟩ := h
      obtain ⟨hz, rfl, rfl, _⟩ := nameP_g hG.tail.tail.tail.tail h5
      obtain ⟨rfl, rfl, rfl⟩ := ok_inj h
      exact ⟨OneS.mk (by simp [mayB, needL, hy, hf, hz]) (by omega) (by omega), fun y hy => s1 y (tail_sub y (tail_sub y (tail_sub y (tail_sub y hy)))), rfl, hnm⟩
    · replace h := bnd_inv h
      obtain ⟨z, L3, n3, h3, h⟩ := h
      obtain ⟨hz, hs, rfl⟩ := callP_g hG.tail (.inl rfl) (fun h => by cases h) hf h3
      obtain ⟨rfl, rfl, rfl⟩ := ok_inj h
      exact ⟨hz, fun y hy => s1 y (hs y hy), rfl, hnm⟩

theorem room_not {e : Nat} {L L' : List Sgn} {n n' hv mst : Nat} {b : Bool} {u : Unit} (h : roomP e L n hv mst b = .ok (u, L', n')) (hb : b = true) : hv < mst := by
  unfold roomP at h
  split at h
  · cases h
  · rename_i hc; rcases Nat.lt_or_ge hv mst with h | h
    · exact h
    · exact absurd ⟨h, hb⟩ hc

theorem parse_g (e : Nat) : ∀ f : Nat,
    (∀ deep L n x L' n', GoodL L → stmtP e f deep L n = .ok (x, L', n') → okS x deep = true ∧ n' = n + totS x ∧ n' ≤ 1024 ∧ ∀ y, y ∈ L' → y ∈ L) ∧
    (∀ deep L n x L' n', GoodL L → n ≤ 1024 → blockP e f deep L n = .ok (x, L', n') → deep ≤ 7 ∧ okA x (deep + 1) = true ∧ n' = n + totL x ∧ n' ≤ 1024 ∧ ∀ y, y ∈ L' → y ∈ L) ∧
    (∀ deep out L n x L' n', GoodL L → n ≤ 1024 → okA out (deep + 1) = true → stmtsP e f deep out L n = .ok (x, L', n') → okA x (deep + 1) = true ∧ n' + totL out = n + totL x ∧ n' ≤ 1024 ∧ ∀ y, y ∈ L' → y ∈ L)
  | 0 => ⟨fun _ _ _ _ _ _ _ h => (by simp only [stmtP] at h; cases h), fun _ _ _ _ _ _ _ _ h => (by simp only [blockP] at h; cases h), fun _ _ _ _ _ _ _ _ _ _ h => (by simp only [stmtsP] at h; cases h)⟩
  | f + 1 => by
    obtain ⟨i1, i2, i3⟩ := parse_g e f
    refine ⟨fun deep L n x L' n' hG h => ?_, fun deep L n x L' n' hG hn h => ?_, fun deep out L n x L' n' hG hn ho h => ?_⟩
    · simp only [stmtP] at h
      replace h := bnd_inv h
      obtain ⟨_, L1, n1, h1, h⟩ := h
      have hroom := fun hb => room_not h1 hb
      obtain ⟨rfl, rfl⟩ := roomP_eq h1
      split at h
      · rename_i ht
        have hn := hroom (by simp [begB, ht])
        replace h := bnd_inv h
        obtain ⟨one, L2, n2, h2, h⟩ := h
        obtain ⟨a1, a2, a3, a4, a5⟩ := i2 _ _ _ _ _ _ hG.tail (by omega) h2
        replace h := bnd_inv h
        obtain ⟨_, L3, n3, h3, h⟩ := h
        obtain ⟨rfl, rfl, _⟩ := mustP_t h3
        replace h := bnd_inv h
        obtain ⟨two, L4, n4, h4, h⟩ := h
        obtain ⟨b1, b2, b3, b4, b5⟩ := i2 _ _ _ _ _ _ (hG.tail.sub a5).tail a4 h4
        obtain ⟨rfl, rfl, rfl⟩ := ok_inj h
        refine ⟨?_, by simp only [totS, if_true]; omega, b4, fun y hy => tail_sub y (a5 y (tail_sub y (b5 y hy)))⟩
        simp only [okS, if_true, mayB, a2, b2, Bool.and_true, Bool.and_eq_true, decide_eq_true_eq]
        exact ⟨by simp, by omega⟩
      · split at h
        · rename_i ht
          have hn := hroom (by simp [begB, ht])
          replace h := bnd_inv h
          obtain ⟨one, L2, n2, h2, h⟩ := h
          obtain ⟨a1, a2, a3, a4, a5⟩ := i2 _ _ _ _ _ _ hG.tail (by omega) h2
          obtain ⟨rfl, rfl, rfl⟩ := ok_inj h
          refine ⟨?_, by simp [totS]; omega, a4, fun y hy => tail_sub y (a5 y hy)⟩
          have : decide (deep + 1 ≤ 8) = true := decide_eq_true (by omega)
          simp [okS, mayB, a2]
          omega
        · split at h
          · rename_i ht
            have hn := hroom (by simp [begB, ht])
            replace h := bnd_inv h
            obtain ⟨y, L2, n2, h2, h⟩ := h
            obtain ⟨hy, rfl, rfl, _⟩ := nameP_g hG.tail h2
            replace h := bnd_inv h
            obtain ⟨_, L3, n3, h3, h⟩ := h
            obtain ⟨rfl, rfl, _⟩ := mustP_t h3
            obtain ⟨rfl, rfl, rfl⟩ := ok_inj h
            have ho := OneS.mk (k := 7) (d := []) (s := y) (c := []) (m := []) (ar := []) (o := []) (t := []) (by simp [mayB, needL, hy]) (by omega) (by omega)
            exact ⟨ho.2.2 _, by rw [ho.2.1], by omega, fun y hy => tail_sub y (tail_sub y (tail_sub y hy))⟩
          · replace h := bnd_inv h
            obtain ⟨y, L2, n2, h2, h⟩ := h
            obtain ⟨ho, hs, rfl, hnm⟩ := plainP_g hG h2
            have hn := hroom (by simp [begB, hnm])
            replace h := bnd_inv h
            obtain ⟨_, L3, n3, h3, h⟩ := h
            obtain ⟨rfl, rfl, _⟩ := mustP_t h3
            obtain ⟨rfl, rfl, rfl⟩ := ok_inj h
            exact ⟨ho.2.2 _, by rw [ho.2.1], by omega, fun y hy => hs y (tail_sub y hy)⟩
    · simp only [blockP] at h
      replace h := bnd_inv h
      obtain ⟨_, L1, n1, h1, h⟩ := h
      have hroom := fun hb => room_not h1 hb
      obtain ⟨rfl, rfl⟩ := roomP_eq h1
      replace h := bnd_inv h
      obtain ⟨_, L2, n2, h2, h⟩ := h
      obtain ⟨rfl, rfl, ht⟩ := mustP_t h2
      have hd := hroom ht
      obtain ⟨a1, a2, a3, a4⟩ := i3 _ _ _ _ _ _ _ hG.tail hn rfl h
      exact ⟨by omega, a1, by simp only [totL] at a2; omega, a3, fun y hy => tail_sub y (a4 y hy)⟩
    · simp only [stmtsP] at h
      split at h
      · obtain ⟨rfl, rfl, rfl⟩ := ok_inj h
        exact ⟨ho, by omega, hn, tail_sub⟩
      · replace h := bnd_inv h
        obtain ⟨y, L2, n2, h2, h⟩ := h
        obtain ⟨a1, a2, a3, a4⟩ := i1 _ _ _ _ _ _ hG h2
        obtain ⟨b1, b2, b3, b4⟩ := i3 _ _ _ _ _ _ _ (hG.sub a4) a3 (by rw [okA_app, ho]; simp [okA, a1]) h
        refine ⟨b1, ?_, b3, fun y hy => a4 y (b4 y hy)⟩
        rw [totL_app] at b2
        simp only [totL] at b2
        omega
end Go.Proofs.Ytilpdejbldllbaa
