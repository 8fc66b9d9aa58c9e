/- What is proved: What is read of a text is a source that may be; What is read of a text is a source that may be, on. Conditions: those that stand in the statements. -/
import Derived.Test.YtilpdejbldllbaaZOwj
set_option linter.unusedSimpArgs false
set_option linter.unusedVariables false
set_option maxRecDepth 100000
namespace Go.Proofs.Ytilpdejbldllbaa
open Go.RowKit

theorem ris_name (t : List UInt8) : RisB 1 t = signB ⟨1, t, 0⟩ := by
  unfold RisB signB
  have := oneK_le32 t
  by_cases h0 : t = []
  · simp [h0]
  · by_cases h1 : oneK t = (1, t.length)
    · have h2 : t.length ≤ 32 := by rw [h1] at this; exact this
      simp [h0, h1, h2]
    · simp [h0, h1]
theorem rname (t : List UInt8) : RnameB t = isNameB t := by unfold RnameB isNameB; rw [ris_name]
theorem GoodL.sub {L L' : List Sgn} (h : GoodL L) (hs : ∀ y, y ∈ L' → y ∈ L) : GoodL L' := fun x hx => h x (hs x hx)
theorem tail_sub {L : List Sgn} : ∀ y, y ∈ L.tail → y ∈ L := fun _ h => List.mem_of_mem_tail h
theorem GoodL.tail {L : List Sgn} (h : GoodL L) : GoodL L.tail := h.sub tail_sub
theorem mustP_t {e : Nat} {L L' : List Sgn} {n n' : Nat} {t : List UInt8} {u : Unit} (h : mustP e L n t = .ok (u, L', n')) : L' = L.tail ∧ n' = n ∧ isT L 0 t = true := by
  unfold mustP at h
  split at h
  · rename_i ht
    obtain ⟨_, rfl, rfl⟩ := ok_inj h; exact ⟨rfl, rfl, ht⟩
  · cases h
theorem nameP_g {e : Nat} {L L' : List Sgn} {n n' : Nat} {x : List UInt8} (hG : GoodL L) (h : nameP e L n = .ok (x, L', n')) : isNameB x = true ∧ L' = L.tail ∧ n' = n ∧ namedB L = true := by
  cases L with
  | nil => cases h
  | cons s r =>
    simp only [nameP] at h
    split at h
    · rename_i hn
      obtain ⟨rfl, rfl, rfl⟩ := ok_inj h
      have hg := hG s (by simp)
      simp only [namedB, Bool.and_eq_true] at hn
      refine ⟨?_, rfl, rfl, by simpa [namedB] using hn⟩
      rw [hn.1, ris_name] at hg
      simp only [isNameB, ← hg, hn.2, Bool.and_self]
    · cases h
theorem namesGo_g {e : Nat} : ∀ (f : Nat) (out : List (List UInt8)) (L L' : List Sgn) (n n' : Nat) (r : List (List UInt8)), GoodL L → out.all isNameB = true → out.length ≤ 8 → namesGo e f out L n = .ok (r, L', n') →
    namesB r = true ∧ (∀ y, y ∈ L' → y ∈ L) ∧ n' = n
  | 0, out, L, L', n, n', r, _, ho, hl, h => by
    simp only [namesGo] at h
    obtain ⟨rfl, rfl, rfl⟩ := ok_inj h
    exact ⟨by simp [namesB, hl, ho], fun _ h => h, rfl⟩
  | f + 1, out, L, L', n, n', r, hG, ho, hl, h => by
    simp only [namesGo] at h
    split at h
    · obtain ⟨rfl, rfl, rfl⟩ := ok_inj h
      exact ⟨by simp [namesB, hl, ho], tail_sub, rfl⟩
    · replace h := bnd_inv h
      obtain ⟨_, L1, n1, h1, h⟩ := h
      have hs1 : (∀ y, y ∈ L1 → y ∈ L) ∧ n1 = n := by
        split at h1
        · obtain ⟨rfl, rfl, _⟩ := mustP_t h1; exact ⟨tail_sub, rfl⟩
        · obtain ⟨_, rfl, rfl⟩ := ok_inj h1; exact ⟨fun _ h => h, rfl⟩
      obtain ⟨hs1, rfl⟩ := hs1
      replace h := bnd_inv h
      obtain ⟨_, L2, n2, h2, h⟩ := h
      have hroom := h2
      obtain ⟨rfl, rfl⟩ := roomP_eq h2
      replace h := bnd_inv h
      obtain ⟨x, L3, n3, h3, h⟩ := h
      obtain ⟨hx, rfl, rfl, hnm⟩ := nameP_g (hG.sub hs1) h3
      have h8 : out.length < 8 := by
        unfold roomP at hroom
        split at hroom
        · cases hroom
        · rename_i hc; rcases Nat.lt_or_ge out.length 8 with h | h
          · exact h
          · exact absurd ⟨h, hnm⟩ hc
      obtain ⟨a1, a2, a3⟩ := namesGo_g f _ _ _ _ _ _ ((hG.sub hs1).tail) (by rw [List.all_append, ho]; simp [hx]) (by simp; omega) h
      exact ⟨a1, fun y hy => hs1 y (tail_sub y (a2 y hy)), a3⟩
theorem namesP_g {e : Nat} {L L' : List Sgn} {n n' : Nat} {r : List (List UInt8)} (hG : GoodL L) (h : namesP e L n = .ok (r, L', n')) : namesB r = true ∧ (∀ y, y ∈ L' → y ∈ L) ∧ n' = n := by
  unfold namesP at h
  replace h := bnd_inv h
  obtain ⟨_, L1, n1, h1, h⟩ := h
  obtain ⟨rfl, rfl, _⟩ := mustP_t h1
  obtain ⟨a1, a2, a3⟩ := namesGo_g _ _ _ _ _ _ _ hG.tail rfl (by simp) h
  exact ⟨a1, fun y hy => tail_sub y (a2 y hy), a3⟩
/-- A statement of names that may be, and holds no others. -/
def OneS (x : Stm) : Prop := mayB x = true ∧ totS x = 1 ∧ ∀ dp, okS x dp = true
theorem OneS.mk {k : Int} {d s c m : List UInt8} {ar : List (List UInt8)} {o t : List Stm} (h : mayB (.mk k d s c m ar o t) = true) (h8 : ¬ k = 8) (h9 : ¬ k = 9) : OneS (.mk k d s c m ar o t) :=
  ⟨h, by simp [totS, h8, h9], fun dp => by simp [okS, h, h8, h9]⟩
theorem callP_g {e : Nat} {L L' : List Sgn} {n n' : Nat} {d m : List UInt8} {b : Bool} {x : Stm} (hG : GoodL L) (hd : d = [] ∨ isNameB d = true) (hb : b = true → isNameB d = true) (hm : isNameB m = true) (h : callP e d m b L n = .ok (x, L', n')) :
    OneS x ∧ (∀ y, y ∈ L' → y ∈ L) ∧ n' = n := by
  unfold callP at h
  have hd' : (d.isEmpty || isNameB d) = true := by rcases hd with rfl | hd <;> simp [*]
  split at h
  · replace h := bnd_inv h
    obtain ⟨y, L1, n1, h1, h⟩ := h
    obtain ⟨hy, rfl, rfl, _⟩ := nameP_g hG.tail h1
    replace h := bnd_inv h
    obtain ⟨ar, L2, n2, h2, h⟩ := h
    obtain ⟨har, hs, rfl⟩ := namesP_g hG.tail.tail h2
    obtain ⟨rfl, rfl, rfl⟩ := ok_inj h
    exact ⟨OneS.mk (by simp [mayB, needL, hy, hm, har, hd']) (by omega) (by omega), fun y hy => tail_sub y (tail_sub y (hs y hy)), rfl⟩
  · replace h := bnd_inv h
    obtain ⟨_, L1, n1, h1, h⟩ := h
    obtain ⟨rfl, rfl, _⟩ := mustP_t h1
    replace h := bnd_inv h
    obtain ⟨y, L2, n2, h2, h⟩ := h
    obtain ⟨hy, rfl, rfl, _⟩ := nameP_g hG.tail h2
    split at h
    · rename_i hc
      obtain ⟨rfl, rfl, rfl⟩ := ok_inj h
      exact ⟨OneS.mk (by simp [mayB, needL, hy, hm, hb hc.1]) (by omega) (by omega), fun y hy => tail_sub y (tail_sub y hy), rfl⟩
    · replace h := bnd_inv h
      obtain ⟨ar, L3, n3, h3, h⟩ := h
      obtain ⟨har, hs, rfl⟩ := namesP_g hG.tail.tail h3
      obtain ⟨rfl, rfl, rfl⟩ := ok_inj h
      exact ⟨OneS.mk (by simp [mayB, needL, hy, hm, har, hd']) (by omega) (by omega), fun y hy => tail_sub y (tail_sub y (hs y hy)), rfl⟩
theorem plainP_g {e : Nat} {L L' : List Sgn} {n n' : Nat} {x : Stm} (hG : GoodL L) (h : plainP e L n = .ok (x, L', n')) : OneS x ∧ (∀ y, y ∈ L' → y ∈ L) ∧ n' = n ∧ namedB L = true := by
  unfold plainP at h
  replace h := bnd_inv h
  obtain ⟨first, L1, n1, h1, h⟩ := h
  obtain ⟨hf, rfl, rfl, hnm⟩ := nameP_g hG h1
  have s1 : ∀ y, y ∈ L.tail → y ∈ L := tail_sub
  split at h
  · split at h
    · replace h := bnd_inv h
      obtain ⟨y, L2, n2, h2, h⟩ := h
      obtain ⟨hy, rfl, rfl, _⟩ := nameP_g hG.tail.tail.tail h2
      obtain ⟨rfl, rfl, rfl⟩ := ok_inj h
      exact ⟨OneS.mk (by simp [mayB, needL, hy, hf]) (by omega) (by omega), fun y hy => s1 y (tail_sub y (tail_sub y (tail_sub y hy))), rfl, hnm⟩
    · replace h := bnd_inv h
      obtain ⟨src, L2, n2, h2, h⟩ := h
      obtain ⟨hy, rfl, rfl, _⟩ := nameP_g hG.tail.tail h2
      split at h
      · replace h := bnd_inv h
        obtain ⟨z, L3, n3, h3, h⟩ := h
        obtain ⟨hz, hs, rfl⟩ := callP_g hG.tail.tail.tail (.inr hf) (fun _ => hf) hy h3
        obtain ⟨rfl, rfl, rfl⟩ := ok_inj h
        exact ⟨hz, fun y hy => s1 y (tail_sub y (tail_sub y (hs y hy))), rfl, hnm⟩
      · obtain ⟨rfl, rfl, rfl⟩ := ok_inj h
        exact ⟨OneS.mk (by simp [mayB, needL, hy, hf]) (by omega) (by omega), fun y hy => s1 y (tail_sub y (tail_sub y hy)), rfl, hnm⟩
  · split at h
    · replace h := bnd_inv h
      obtain ⟨_, L2, n2, h2, h⟩ := h
      obtain ⟨rfl, rfl, _⟩ := mustP_t h2
      replace h := bnd_inv h
      obtain ⟨y, L3, n3, h3, h⟩ := h
      obtain ⟨hy, rfl, rfl, _⟩ := nameP_g hG.tail.tail h3
      replace h := bnd_inv h
      obtain ⟨_, L4, n4, h4, h⟩ := h
      obtain ⟨rfl, rfl, _⟩ := mustP_t h4
      replace h := bnd_inv h
      obtain ⟨src, L5, n5, h5, h⟩ := h
      obtain ⟨hz, rfl, rfl, _⟩ := nameP_g hG.tail.tail.tail.tail h5
      obtain ⟨rfl, rfl, rfl⟩ := ok_inj h
      exact ⟨OneS.mk (by simp [mayB, needL, hy, hf, hz]) (by omega) (by omega), fun y hy => s1 y (tail_sub y (tail_sub y (tail_sub y (tail_sub y hy)))), rfl, hnm⟩
    · replace h := bnd_inv h
      obtain ⟨z, L3, n3, h3, h⟩ := h
      obtain ⟨hz, hs, rfl⟩ := callP_g hG.tail (.inl rfl) (fun h => by cases h) hf h3
      obtain ⟨rfl, rfl, rfl⟩ := ok_inj h
      exact ⟨hz, fun y hy => s1 y (hs y hy), rfl, hnm⟩

theorem room_not {e : Nat} {L L' : List Sgn} {n n' hv mst : Nat} {b : Bool} {u : Unit} (h : roomP e L n hv mst b = .ok (u, L', n')) (hb : b = true) : hv < mst := by
  unfold roomP at h
  split at h
  · cases h
  · rename_i hc; rcases Nat.lt_or_ge hv mst with h | h
    · exact h
    · exact absurd ⟨h, hb⟩ hc

theorem parse_g (e : Nat) : ∀ f : Nat,
    (∀ deep L n x L' n', GoodL L → stmtP e f deep L n = .ok (x, L', n') → okS x deep = true ∧ n' = n + totS x ∧ n' ≤ 1024 ∧ ∀ y, y ∈ L' → y ∈ L) ∧
    (∀ deep L n x L' n', GoodL L → n ≤ 1024 → blockP e f deep L n = .ok (x, L', n') → deep ≤ 7 ∧ okA x (deep + 1) = true ∧ n' = n + totL x ∧ n' ≤ 1024 ∧ ∀ y, y ∈ L' → y ∈ L) ∧
    (∀ deep out L n x L' n', GoodL L → n ≤ 1024 → okA out (deep + 1) = true → stmtsP e f deep out L n = .ok (x, L', n') → okA x (deep + 1) = true ∧ n' + totL out = n + totL x ∧ n' ≤ 1024 ∧ ∀ y, y ∈ L' → y ∈ L)
  | 0 => ⟨fun _ _ _ _ _ _ _ h => (by simp only [stmtP] at h; cases h), fun _ _ _ _ _ _ _ _ h => (by simp only [blockP] at h; cases h), fun _ _ _ _ _ _ _ _ _ _ h => (by simp only [stmtsP] at h; cases h)⟩
  | f + 1 => by
    obtain ⟨i1, i2, i3⟩ := parse_g e f
    refine ⟨fun deep L n x L' n' hG h => ?_, fun deep L n x L' n' hG hn h => ?_, fun deep out L n x L' n' hG hn ho h => ?_⟩
    · simp only [stmtP] at h
      replace h := bnd_inv h
      obtain ⟨_, L1, n1, h1, h⟩ := h
      have hroom := fun hb => room_not h1 hb
      obtain ⟨rfl, rfl⟩ := roomP_eq h1
      split at h
      · rename_i ht
        have hn := hroom (by simp [begB, ht])
        replace h := bnd_inv h
        obtain ⟨one, L2, n2, h2, h⟩ := h
        obtain ⟨a1, a2, a3, a4, a5⟩ := i2 _ _ _ _ _ _ hG.tail (by omega) h2
        replace h := bnd_inv h
        obtain ⟨_, L3, n3, h3, h⟩ := h
        obtain ⟨rfl, rfl, _⟩ := mustP_t h3
        replace h := bnd_inv h
        obtain ⟨two, L4, n4, h4, h⟩ := h
        obtain ⟨b1, b2, b3, b4, b5⟩ := i2 _ _ _ _ _ _ (hG.tail.sub a5).tail a4 h4
        obtain ⟨rfl, rfl, rfl⟩ := ok_inj h
        refine ⟨?_, by simp only [totS, if_true]; omega, b4, fun y hy => tail_sub y (a5 y (tail_sub y (b5 y hy)))⟩
        simp only [okS, if_true, mayB, a2, b2, Bool.and_true, Bool.and_eq_true, decide_eq_true_eq]
        exact ⟨by simp, by omega⟩
      · split at h
        · rename_i ht
          have hn := hroom (by simp [begB, ht])
          replace h := bnd_inv h
          obtain ⟨one, L2, n2, h2, h⟩ := h
          obtain ⟨a1, a2, a3, a4, a5⟩ := i2 _ _ _ _ _ _ hG.tail (by omega) h2
          obtain ⟨rfl, rfl, rfl⟩ := ok_inj h
          refine ⟨?_, by simp [totS]; omega, a4, fun y hy => tail_sub y (a5 y hy)⟩
          have : decide (deep + 1 ≤ 8) = true := decide_eq_true (by omega)
          simp [okS, mayB, a2]
          omega
        · split at h
          · rename_i ht
            have hn := hroom (by simp [begB, ht])
            replace h := bnd_inv h
            obtain ⟨y, L2, n2, h2, h⟩ := h
            obtain ⟨hy, rfl, rfl, _⟩ := nameP_g hG.tail h2
            replace h := bnd_inv h
            obtain ⟨_, L3, n3, h3, h⟩ := h
            obtain ⟨rfl, rfl, _⟩ := mustP_t h3
            obtain ⟨rfl, rfl, rfl⟩ := ok_inj h
            have ho := OneS.mk (k := 7) (d := []) (s := y) (c := []) (m := []) (ar := []) (o := []) (t := []) (by simp [mayB, needL, hy]) (by omega) (by omega)
            exact ⟨ho.2.2 _, by rw [ho.2.1], by omega, fun y hy => tail_sub y (tail_sub y (tail_sub y hy))⟩
          · replace h := bnd_inv h
            obtain ⟨y, L2, n2, h2, h⟩ := h
            obtain ⟨ho, hs, rfl, hnm⟩ := plainP_g hG h2
            have hn := hroom (by simp [begB, hnm])
            replace h := bnd_inv h
            obtain ⟨_, L3, n3, h3, h⟩ := h
            obtain ⟨rfl, rfl, _⟩ := mustP_t h3
            obtain ⟨rfl, rfl, rfl⟩ := ok_inj h
            exact ⟨ho.2.2 _, by rw [ho.2.1], by omega, fun y hy => hs y (tail_sub y hy)⟩
    · simp only [blockP] at h
      replace h := bnd_inv h
      obtain ⟨_, L1, n1, h1, h⟩ := h
      have hroom := fun hb => room_not h1 hb
      obtain ⟨rfl, rfl⟩ := roomP_eq h1
      replace h := bnd_inv h
      obtain ⟨_, L2, n2, h2, h⟩ := h
      obtain ⟨rfl, rfl, ht⟩ := mustP_t h2
      have hd := hroom ht
      obtain ⟨a1, a2, a3, a4⟩ := i3 _ _ _ _ _ _ _ hG.tail hn rfl h
      exact ⟨by omega, a1, by simp only [totL] at a2; omega, a3, fun y hy => tail_sub y (a4 y hy)⟩
    · simp only [stmtsP] at h
      split at h
      · obtain ⟨rfl, rfl, rfl⟩ := ok_inj h
        exact ⟨ho, by omega, hn, tail_sub⟩
      · replace h := bnd_inv h
        obtain ⟨y, L2, n2, h2, h⟩ := h
        obtain ⟨a1, a2, a3, a4⟩ := i1 _ _ _ _ _ _ hG h2
        obtain ⟨b1, b2, b3, b4⟩ := i3 _ _ _ _ _ _ _ (hG.sub a4) a3 (by rw [okA_app, ho]; simp [okA, a1]) h
        refine ⟨b1, ?_, b3, fun y hy => a4 y (b4 y hy)⟩
        rw [totL_app] at b2
        simp only [totL] at b2
        omega
end Go.Proofs.Ytilpdejbldllbaa
set_option maxRecDepth 100000
namespace Go.Proofs.Ytilpdejbldllbaa
open Go.RowKit

theorem mthsP_g {e : Nat} : ∀ (f : Nat) (out : List Mth) (L L' : List Sgn) (n n' : Nat) (r : List Mth), GoodL L → n ≤ 1024 → out.all headM = true → out.all (fun m => okA m.body 1) = true → out.length ≤ 32 → mthsP e f out L n = .ok (r, L', n') →
    r.all headM = true ∧ r.all (fun m => okA m.body 1) = true ∧ r.length ≤ 32 ∧ n' + totM out = n + totM r ∧ n' ≤ 1024 ∧ ∀ y, y ∈ L' → y ∈ L
  | 0, _, _, _, _, _, _, _, _, _, _, _, h => by simp only [mthsP] at h; cases h
  | f + 1, out, L, L', n, n', r, hG, hn, h1, h2, h3, h => by
    simp only [mthsP] at h
    split at h
    · obtain ⟨rfl, rfl, rfl⟩ := ok_inj h
      exact ⟨h1, h2, h3, by omega, hn, tail_sub⟩
    · replace h := bnd_inv h
      obtain ⟨_, L1, n1, e1, h⟩ := h
      have hroom := fun hb => room_not e1 hb
      obtain ⟨rfl, rfl⟩ := roomP_eq e1
      replace h := bnd_inv h
      obtain ⟨x, L2, n2, e2, h⟩ := h
      have hs : GoodL (if isT L1 0 [115, 116, 97, 116, 105, 99] = true then L1.tail else L1) := by split; exact hG.tail; exact hG
      obtain ⟨hx, hL2, rfl, hnm⟩ := nameP_g hs e2
      have hb : (namedB L1 || isT L1 0 [115, 116, 97, 116, 105, 99]) = true := by
        cases hst : isT L1 0 [115, 116, 97, 116, 105, 99]
        · rw [hst] at hnm; simpa using hnm
        · simp
      have hlt := hroom hb
      have hsub2 : ∀ y, y ∈ L2 → y ∈ L1 := by
        rw [hL2]
        split
        · exact fun y hy => tail_sub y (tail_sub y hy)
        · exact tail_sub
      replace h := bnd_inv h
      obtain ⟨ps, L3, n3, e3, h⟩ := h
      obtain ⟨hps, hs3, rfl⟩ := namesP_g (hG.sub hsub2) e3
      replace h := bnd_inv h
      obtain ⟨b, L4, n4, e4, h⟩ := h
      obtain ⟨_, b2, b3, b4, b5⟩ := (parse_g e _).2.1 _ _ _ _ _ _ ((hG.sub hsub2).sub hs3) hn e4
      obtain ⟨c1, c2, c3, c4, c5, c6⟩ := mthsP_g f _ _ _ _ _ _ (((hG.sub hsub2).sub hs3).sub b5) b4 (by rw [List.all_append, h1]; simp [headM, hx, hps]) (by rw [List.all_append, h2]; simpa using b2) (by simp; omega) h
      rw [totM_app] at c4
      simp only [totM] at c4
      exact ⟨c1, c2, c3, by omega, c5, fun y hy => hsub2 y (hs3 y (b5 y (c6 y hy)))⟩
theorem classP_g {e : Nat} {L L' : List Sgn} {n n' : Nat} {c : Cls} (hG : GoodL L) (hn : n ≤ 1024) (h : classP e L n = .ok (c, L', n')) :
    headC c = true ∧ c.mths.all (fun m => okA m.body 1) = true ∧ n' = n + totM c.mths ∧ n' ≤ 1024 ∧ (∀ y, y ∈ L' → y ∈ L) ∧ isT L 0 [99, 108, 97, 115, 115] = true := by
  unfold classP at h
  replace h := bnd_inv h
  obtain ⟨_, L1, n1, e1, h⟩ := h
  obtain ⟨rfl, rfl, ht⟩ := mustP_t e1
  replace h := bnd_inv h
  obtain ⟨x, L2, n2, e2, h⟩ := h
  obtain ⟨hx, rfl, rfl, _⟩ := nameP_g hG.tail e2
  replace h := bnd_inv h
  obtain ⟨y, L3, n3, e3, h⟩ := h
  have h3 : (y = [] ∨ isNameB y = true) ∧ (∀ z, z ∈ L3 → z ∈ L.tail.tail) ∧ n3 = n2 := by
    split at e3
    · replace e3 := bnd_inv e3
      obtain ⟨z, L4, n4, e4, e3⟩ := e3
      obtain ⟨hz, rfl, rfl, _⟩ := nameP_g hG.tail.tail.tail e4
      obtain ⟨rfl, rfl, rfl⟩ := ok_inj e3
      exact ⟨.inr hz, fun y hy => tail_sub y (tail_sub y hy), rfl⟩
    · obtain ⟨rfl, rfl, rfl⟩ := ok_inj e3
      exact ⟨.inl rfl, fun _ h => h, rfl⟩
  obtain ⟨hy, hs3, rfl⟩ := h3
  replace h := bnd_inv h
  obtain ⟨_, L4, n4, e4, h⟩ := h
  obtain ⟨rfl, rfl, _⟩ := mustP_t e4
  replace h := bnd_inv h
  obtain ⟨ms, L5, n5, e5, h⟩ := h
  obtain ⟨c1, c2, c3, c4, c5, c6⟩ := mthsP_g _ _ _ _ _ _ _ ((hG.tail.tail.sub hs3).tail) hn rfl rfl (by simp) e5
  obtain ⟨rfl, rfl, rfl⟩ := ok_inj h
  simp only [totM] at c4
  refine ⟨?_, c2, by omega, c5, fun z hz => tail_sub z (tail_sub z (hs3 z (tail_sub z (c6 z hz)))), ht⟩
  have : (y.isEmpty || isNameB y) = true := by rcases hy with rfl | hy <;> simp [*]
  simp [headC, hx, c1, c3]
  simpa using this
theorem parsesP_g {e : Nat} : ∀ (f : Nat) (out : List Cls) (L L' : List Sgn) (n n' : Nat) (r : List Cls), GoodL L → n ≤ 1024 → n = totM (allM out) → out.all headC = true → (allM out).all (fun m => okA m.body 1) = true → out.length ≤ 32 → parsesP e f out L n = .ok (r, L', n') → checkB r = true
  | 0, _, _, _, _, _, _, _, _, _, _, _, _, h => by simp only [parsesP] at h; cases h
  | f + 1, out, L, L', n, n', r, hG, hn, hnt, h1, h2, h3, h => by
    simp only [parsesP] at h
    split at h
    · obtain ⟨rfl, rfl, rfl⟩ := ok_inj h
      simp [checkB, h1, h2, h3, ← hnt, hn]
    · replace h := bnd_inv h
      obtain ⟨_, L1, n1, e1, h⟩ := h
      have hroom := fun hb => room_not e1 hb
      obtain ⟨rfl, rfl⟩ := roomP_eq e1
      replace h := bnd_inv h
      obtain ⟨c, L2, n2, e2, h⟩ := h
      obtain ⟨c1, c2, c3, c4, c5, c6⟩ := classP_g hG hn e2
      have hlt := hroom c6
      have ha : allM (out ++ [c]) = allM out ++ c.mths := by rw [allM_app]; simp [allM]
      exact parsesP_g f _ _ _ _ _ _ (hG.sub c5) c4 (by rw [ha, totM_app]; omega) (by rw [List.all_append, h1]; simp [c1]) (by rw [ha, List.all_append, h2]; simpa using c2) (by simp; omega) h
theorem parse_check {l : List UInt8} {x : List Cls} (h : parseS l = .ok x) : checkB x = true := by
  unfold parseS at h
  cases hL : lexSigns l with
  | error q => rw [hL] at h; cases h
  | ok L =>
    obtain ⟨hG, _⟩ := lexSigns_good hL
    rw [hL] at h
    simp only at h
    split at h
    · rename_i cs L2 n2 hp
      injection h with h
      subst h
      exact parsesP_g _ [] _ _ 0 _ _ hG (by omega) rfl rfl rfl (by simp) hp
    · cases h

/-- A source that may be is small. -/
theorem tx_ok {l : List (List UInt8)} (h : l.length ≤ 8) (h2 : ∀ x, x ∈ l → x.length ≤ 32) : TxOk l := ⟨by omega, fun x hx => by have := h2 x hx; omega⟩
mutual
theorem okS_ok : ∀ (x : Stm) (dp : Nat), okS x dp = true → totS x ≤ 1024 → StmOk x
  | .mk k d s c m ar o t, dp, h, ht => by
    simp only [okS, Bool.and_eq_true] at h
    obtain ⟨hm, hr⟩ := h
    obtain ⟨h1, h2, h3, h4, h5, h6⟩ := may_len hm
    have ho : (o.length ≤ 140737488355328 ∧ StmsOk o) ∧ (t.length ≤ 140737488355328 ∧ StmsOk t) := by
      by_cases h8 : k = 8
      · subst h8
        simp only [if_true, Bool.and_eq_true] at hr
        simp only [totS, if_true] at ht
        have l1 := totL_len o
        have l2 := totL_len t
        exact ⟨⟨by omega, okA_ok o _ hr.1.2 (by omega)⟩, ⟨by omega, okA_ok t _ hr.2 (by omega)⟩⟩
      · by_cases h9 : k = 9
        · subst h9
          have ht2 : t = [] := by
            simp only [mayB, seval, if_true, if_false, Bool.and_eq_true] at hm
            simpa using hm.2
          simp only [seval, if_true, if_false, Bool.and_eq_true] at hr
          simp only [totS, seval, if_true, if_false] at ht
          have l1 := totL_len o
          subst ht2
          exact ⟨⟨by omega, okA_ok o _ hr.2 (by omega)⟩, ⟨by simp, trivial⟩⟩
        · simp only [mayB, if_neg h8, if_neg h9, Bool.and_eq_true] at hm
          have ho2 : o = [] := by simpa using hm.1.1.1
          have ht2 : t = [] := by simpa using hm.1.1.2
          subst ho2; subst ht2
          exact ⟨⟨by simp, trivial⟩, ⟨by simp, trivial⟩⟩
    exact ⟨⟨by omega, by omega, by omega, by omega⟩, tx_ok h5 h6, ho.1, ho.2⟩
theorem okA_ok : ∀ (l : List Stm) (dp : Nat), okA l dp = true → totL l ≤ 1024 → StmsOk l
  | [], _, _, _ => trivial
  | x :: l, dp, h, ht => by
    simp only [okA, Bool.and_eq_true] at h
    simp only [totL] at ht
    exact ⟨okS_ok x dp h.1 (by omega), okA_ok l dp h.2 (by omega)⟩
end
theorem check_ok {x : List Cls} (h : checkB x = true) : SrcOk x := by
  simp only [checkB, Bool.and_eq_true, decide_eq_true_eq] at h
  obtain ⟨⟨h32, hh⟩, ho, ht⟩ := h
  refine ⟨by omega, fun c hc => ?_⟩
  have hcc := List.all_eq_true.1 hh c hc
  simp only [headC, Bool.and_eq_true, decide_eq_true_eq, Bool.or_eq_true] at hcc
  obtain ⟨⟨⟨h1, h2⟩, h3⟩, h4⟩ := hcc
  have l1 := isName_len h1
  have l2 : c.par.length ≤ 32 := by
    rcases h2 with h2 | h2
    · have : c.par = [] := by simpa using h2
      rw [this]; simp
    · exact isName_len h2
  refine ⟨by omega, by omega, by omega, fun m hm => ?_⟩
  have hmm := List.all_eq_true.1 h4 m hm
  simp only [headM, Bool.and_eq_true] at hmm
  obtain ⟨p1, p2⟩ := names8 hmm.2
  have hin := allM_mem hc hm
  have hto := Nat.le_trans (totM_mem hin) ht
  have := isName_len hmm.1
  have hll := totL_len m.body
  exact ⟨by omega, tx_ok p1 p2, by omega, okA_ok m.body 1 (List.all_eq_true.1 ho m hin) hto⟩
end Go.Proofs.Ytilpdejbldllbaa
