/- What is proved: What strings.Join and strings.Repeat hand back, told of values without addresses: from the library's own contracts. Conditions: what they make is no longer than 2^47 bytes. Conditions: those that stand in the statements. -/
import Derived.Test.YtejlknplmfmceaaZGpj
import Derived.Test.YtejlknplmfmceaaZShelf
set_option linter.unusedSimpArgs false
set_option linter.unusedVariables false
namespace Go.Proofs.Ytejlknplmfmceaa
open Go.RowKit

theorem Sim.world {w0 w w' : World} {G : Gh} {s : St} (h : Sim w0 G w s) (hb : Below w.heap.size w w') : Sim w0 G w' s := by
  have hs : ∀ b, s b ≠ .free → b < w.heap.size := fun b e => h.lt e
  refine ⟨h.below.trans (hb.mono h.size_le), fun b i v hk => ?_, fun b c hc => Nat.lt_of_lt_of_le (h.cap b c hc) hb.size, fun b => ?_, h.gl, h.rows.keep' (Gh.le.refl G) hb.size (fun g hl hg => ⟨hg, hb.block g hl, fun _ => rfl⟩) (fun x T xs rs hx => ⟨hx, hb.block x (h.lt (by rw [hx]; simp))⟩)⟩
  · exact (hb.cell (p := ⟨b, i, none⟩) (h.K_lt hk)).trans (h.K b i v hk)
  · rcases Nat.lt_or_ge b w.heap.size with e | e
    · exact (h.ok b).keep (hb.block b e) (Gh.le.refl G) (fun _ => rfl)
    · have hf : s b = .free := by
        cases hc : s b with
        | free => rfl
        | _ => exact absurd (hs b (by rw [hc]; simp)) (by omega)
      rw [hf]
      trivial

def strs (l : List (List UInt8)) : List (List VV) := l.map fun x => [.str x]

theorem RL_two {G : Gh} {vs : Array Value} {x y : VV} (h : RL G vs [x, y]) : ∃ a b, vs = #[a, b] ∧ R G a x ∧ R G b y := by
  obtain ⟨hs, hr⟩ := h
  obtain ⟨l⟩ := vs
  match l, hs, hr with
  | [a, b], _, hr => exact ⟨a, b, rfl, hr 0 a x rfl rfl, hr 1 b y rfl rfl⟩

theorem Repeat_S (x : List UInt8) (n : Nat) (hn : n ≤ 9223372036854775807) (hl : x.length * n ≤ 140737488355328) (s : St) :
    SRet Try.prog 57 [.str x, .int .i64 (n : Int)] s (.str (Lib.repeatL x n)) s := by
  intro w0 G w vs hS hA
  obtain ⟨a, b, rfl, ha, hb⟩ := RL_two hA
  cases ha with
  | str a =>
    cases hb with
    | int k m =>
      refine Calls.mono (Try.strings_Repeat ⟨a⟩ n w hn (by simpa [ByteArray.size] using hl)) fun e w' h => ?_
      obtain ⟨rfl, hw⟩ := h
      exact ⟨G, s, .ret (.str (Lib.repeatL a.toList n)), Gh.le.refl G, hS.world hw, by
        have := R.str (G := G) (Lib.repeatL a.toList n).toArray
        simpa [RE] using this, rfl, rfl⟩

theorem Join_S (xs : List (List UInt8)) (o : Own) (sep : List UInt8) (hl : (Lib.join xs sep).length ≤ 140737488355328) (hN : xs.length ≤ 140737488355328) (s : St) :
    SRet Try.prog 58 [.lst (strs xs) o, .str sep] s (.str (Lib.join xs sep)) s := by
  intro w0 G w vs hS hA
  obtain ⟨a, b, rfl, ha, hb⟩ := RL_two hA
  cases hb with
  | str sepa =>
    generalize hys : strs xs = ys at ha
    cases ha with
    | emp ad cap o ho =>
      have hx : xs = [] := by cases xs <;> simp_all [strs]
      subst hx
      refine Calls.mono (Try.strings_Join_none ad cap ⟨sepa⟩ w) fun e w' h => ?_
      obtain ⟨rfl, rfl⟩ := h
      exact ⟨G, s, .ret (.str []), Gh.le.refl G, hS, by
        have := R.str (G := G) #[]
        simpa [RE] using this, by simp [Lib.join_nil], rfl⟩
    | lst bk off len cap sz xs' o f hlen hc hz h1 hK hR ho =>
      subst hys
      have hlen' : len = xs.length := by rw [← hlen]; simp [strs]
      subst hlen'
      have hcell : ∀ (j : Nat) (x : List UInt8), xs[j]? = some x → w.cell? ⟨bk, off + j, none⟩ = some (.string ⟨x.toArray⟩) := by
        intro j x hj
        have hlt : j < xs.length := (List.getElem?_eq_some_iff.1 hj).1
        have hx1 : (strs xs)[j]? = some [.str x] := by simp [strs, hj]
        have hsz : sz = 1 := by
          have := hz [.str x] (List.mem_of_getElem? hx1)
          simpa using this.symm
        subst hsz
        have h2 := hS.K _ _ _ (hK j 0 hlt (by omega))
        have h3 := hR j 0 [.str x] (.str x) hx1 rfl
        generalize f j 0 = v at h2 h3
        cases h3 with
        | str q => simpa using h2
      rcases Nat.eq_zero_or_pos xs.length with h0 | h0
      · have hx : xs = [] := List.length_eq_zero_iff.1 h0
        subst hx
        refine Calls.mono (Try.strings_Join_none (some ⟨bk, off, none⟩) cap ⟨sepa⟩ w) fun e w' h => ?_
        obtain ⟨rfl, rfl⟩ := h
        exact ⟨G, s, .ret (.str []), Gh.le.refl G, hS, by
          have := R.str (G := G) #[]
          simpa [RE] using this, by simp [Lib.join_nil], rfl⟩
      · obtain ⟨x0, hx0⟩ : ∃ x0, xs[0]? = some x0 := ⟨xs[0], by simp [h0]⟩
        have hbk : bk < w.heap.size := World.block_lt_of_cell? w ⟨bk, off + 0, none⟩ (hcell 0 x0 hx0)
        have hmap : (xs.map fun l => (⟨l.toArray⟩ : ByteArray)).map (fun x => x.data.toList) = xs := by
          rw [List.map_map]
          conv => rhs; rw [← List.map_id xs]
          exact List.map_congr_left fun _ _ => by simp
        have key := Try.strings_Join bk off cap (xs.map fun l => (⟨l.toArray⟩ : ByteArray)) ⟨sepa⟩ w (by
          intro j x hj
          rw [List.getElem?_map] at hj
          obtain ⟨y, hy, rfl⟩ := Option.map_eq_some_iff.1 hj
          exact hcell j y hy) hbk (by simpa using hN) (by simpa using hc) (by rw [hmap]; exact hl)
        rw [hmap] at key
        simp only [List.length_map] at key
        refine Calls.mono key fun e w' h => ?_
        obtain ⟨rfl, hw⟩ := h
        exact ⟨G, s, .ret (.str (Lib.join xs sepa.toList)), Gh.le.refl G, hS.world hw, by
          have := R.str (G := G) (Lib.join xs sepa.toList).toArray
          simpa [RE] using this, rfl, rfl⟩
end Go.Proofs.Ytejlknplmfmceaa
