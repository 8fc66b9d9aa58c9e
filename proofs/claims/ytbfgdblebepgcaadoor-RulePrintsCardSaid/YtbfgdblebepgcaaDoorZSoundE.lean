/- What is proved: That what is said of an operation holds of the model's: maps, numbers, strings, calls; all of them in one theorem. Conditions: those that stand in the statements. -/
import Derived.Test.YtbfgdblebepgcaaDoorZSoundD
import Derived.Lib.Strings
import Derived.MapKept
set_option linter.unusedSimpArgs false
set_option linter.unusedVariables false
namespace Go.Proofs.YtbfgdblebepgcaaDoor
open Go.RowKit

section
variable {P : Program} {N : Nat} {w0 w w' : World} {G G' : Gh} {s s' : St}

theorem keyEq_now {kd : TypeDesc} {a b : Value} {x y : VV} {t : Bool} (hk : kfit (qkOf kd) x = true) (ha : R G a x) (hb : R G b y) (h : keyEq x y = some t) :
    Instr.sameNow kd a b = some t := by
  unfold keyEq at h
  split at h
  · simp only [Option.some.injEq] at h
    subst h
    cases ha with
    | str a =>
      cases hb with
      | str b =>
        cases kd <;> simp [qkOf, kfit] at hk
        simp only [Instr.sameNow, Option.some.injEq]
        rw [Bool.eq_iff_iff, MapKept.bytes_beq, decide_eq_true_eq]
        constructor
        · intro e; injection e with e; rw [e]
        · intro e; rw [Array.toList_inj.1 e]
  · rename_i k x k' y
    split at h
    · rename_i e
      subst e
      simp only [Option.some.injEq] at h
      subst h
      cases ha
      cases hb
      cases kd <;> simp [qkOf, kfit] at hk
      simp only [Instr.sameNow, if_true, Option.some.injEq]
      rw [Bool.eq_iff_iff, beq_iff_eq, decide_eq_true_eq]
    · cases h
  · cases h

/-- A map's entries. -/
def RM (G : Gh) (es : List MapEntry) (xs : List (VV × VV)) : Prop :=
  es.length = xs.length ∧ ∀ (i : Nat) (k x : VV), xs[i]? = some (k, x) → ∃ e, es[i]? = some e ∧ R G e.key k ∧ R G e.val x

theorem RM.tail {e : MapEntry} {es : List MapEntry} {x : VV × VV} {xs : List (VV × VV)} (h : RM G (e :: es) (x :: xs)) : RM G es xs :=
  ⟨by have := h.1; simpa using this, fun i k y hi => by simpa using h.2 (i + 1) k y (by simpa using hi)⟩
theorem RM.head {e : MapEntry} {es : List MapEntry} {k x : VV} {xs : List (VV × VV)} (h : RM G (e :: es) ((k, x) :: xs)) : R G e.key k ∧ R G e.val x := by
  obtain ⟨e', he, h1, h2⟩ := h.2 0 k x rfl
  simp at he
  subst he
  exact ⟨h1, h2⟩

theorem run_mget {kd : TypeDesc} {a : Value} {x : VV} (hk : kfit (qkOf kd) x = true) (ha : R G a x) :
    ∀ (xs : List (VV × VV)) (es : List MapEntry) (n : Nat) (r : Option VV), RM G es xs → mget x xs = some r →
      ∃ q, Instr.findNow kd a es n = some q ∧ (match r, q with | some y, some (_, v) => R G v y | none, none => True | _, _ => False)
  | [], [], n, r, _, h => by
    simp only [mget, Option.some.injEq] at h
    subst h
    exact ⟨none, rfl, trivial⟩
  | [], e :: es, n, r, hm, _ => by have := hm.1; simp at this
  | y :: xs, [], n, r, hm, _ => by have := hm.1; simp at this
  | (k, y) :: xs, e :: es, n, r, hm, h => by
    obtain ⟨h1, h2⟩ := hm.head
    simp only [mget] at h
    cases hq : keyEq x k with
    | none => simp [hq] at h
    | some t =>
      have hn := keyEq_now hk ha h1 hq
      cases t with
      | true =>
        simp only [hq, Option.some.injEq] at h
        subst h
        exact ⟨some (n, e.val), by simp [Instr.findNow, hn], h2⟩
      | false =>
        simp only [hq] at h
        obtain ⟨q, hq', hr⟩ := run_mget hk ha xs es (n + 1) r hm.tail h
        exact ⟨q, by simp [Instr.findNow, hn, hq'], hr⟩

theorem run_checkKey {T : TypeId} {kd : TypeDesc} {x : VV} {a : Value} (hd : P.underlying T = some kd) (hk : kfit (qkOf kd) x = true) (b : Bool) (n : Nat) :
    (Instr.checkKey b (n + 1) T a).run P w = .ok () w := by
  cases kd <;> simp [qkOf, kfit] at hk <;> simp [Instr.checkKey, run_underlying hd]

theorem kind_key {T : TypeId} {x : VV} (hk : kfit (qi P T).k x = true) :
    ∃ kd, P.underlying T = some kd ∧ kfit (qkOf kd) x = true := by
  obtain ⟨d, i, hd, hi, hkT, _⟩ := qi_spec (P := P) T (.inr (.inl (by intro e; rw [e] at hk; cases x <;> simp [kfit] at hk)))
  exact ⟨d, hd, by rw [hkT] at hk; exact hk⟩

theorem run_vlookup {T : TypeId} {m key : Value} {x k y : VV} {ok : Bool} (hS : Sim w0 G w s) (hm : R G m x) (hkey : R G key k)
    (h : vlookup (qi P T) (qi P (elemT (qi P T))) (qi P (keyT (qi P T))) x k ok s = some y) : ∃ v, (Instr.lookup T m key ok).run P w = .ok v w ∧ R G v y := by
  unfold vlookup at h
  split at h
  · rename_i kt et b hk
    split at h
    · rename_i es hb hkk
      have ho := hS.ok b
      rw [hb] at ho
      obtain ⟨_, c, clock, hh, hsz, hrel⟩ := ho
      have hd := kind_map hk
      have hek : elemT (qi P T) = et := by simp [elemT, hk]
      have hkt : keyT (qi P T) = kt := by simp [keyT, hk]
      rw [hek] at h
      rw [hkt] at hkk
      obtain ⟨kd, hkd, hkk'⟩ := kind_key (P := P) hkk
      cases hm
      have hRM : RM G c.toList es := ⟨by simpa using hsz, fun i k x hi => by simpa using hrel i k x hi⟩
      have hget : (getObj b).run P w = .ok (.map c clock) w := by simp [getObj, Sem.run, hh]
      cases hg : mget k es with
      | none => simp [hg] at h
      | some r =>
        obtain ⟨q, hq, hr⟩ := run_mget hkk' hkey es c.toList 0 r hRM hg
        cases r with
        | some z =>
          simp only [hg, Option.some.injEq] at h
          cases q with
          | none => exact hr.elim
          | some q =>
            obtain ⟨n, v⟩ := q
            subst h
            refine ⟨if ok then .tuple #[v, .bool true] else v, ?_, ?_⟩
            · unfold Instr.lookup
              simp only [Sem.run_bind, run_underlying hd, Result.andThen_ok, hget, Sem.run_pure, run_checkKey hkd hkk', Instr.findKey, run_underlying hkd, hq]
            · cases ok with
              | true => exact .tup _ _ rfl (fun j v y hv hy => by
                  match j with
                  | 0 => simp at hv hy; subst hv; subst hy; exact hr
                  | 1 => simp at hv hy; subst hv; subst hy; exact .bool _
                  | j + 2 => simp at hv)
              | false => exact hr
        | none =>
          cases q with
          | some q => exact hr.elim
          | none =>
            simp only [hg] at h
            cases hz : vzero (qi P et) with
            | none => simp [hz] at h
            | some z =>
              simp only [hz, Option.map_some, Option.some.injEq] at h
              subst h
              unfold vzero at hz
              split at hz
              · rename_i hzok
                obtain ⟨zv, i, d, hi, hde, hke, hs, hzz, hpos, hzs, ⟨hag, hnt⟩, hrl⟩ := RLs.zero (P := P) (G := G) hzok
                have hzr : R G zv z := by
                  rw [hke] at hz
                  cases hd' : (qkOf d).agg with
                  | true =>
                    rw [hd'] at hz hag
                    simp only [if_true, Option.some.injEq] at hz
                    subst hz
                    have hone : zv.oneCell' = false := by cases h : zv.oneCell' <;> simp [h] at hag ⊢
                    cases zv with
                    | agg cs => exact .agg cs _ hrl.1 hrl.2.1 hrl.2.2
                    | tuple vs => simp [notTup] at hnt
                    | _ => simp [Value.oneCell'] at hone
                  | false =>
                    rw [hd'] at hz hag
                    simp only [Bool.false_eq_true, if_false] at hz
                    have hone : zv.oneCell' = true := by cases h : zv.oneCell' <;> simp [h] at hag ⊢
                    have hc : zv.cells = #[zv] := by cases zv <;> first | rfl | (simp [Value.oneCell'] at hone)
                    exact hrl.2.2 0 zv z (by rw [hc]; rfl) hz
                refine ⟨if ok then .tuple #[zv, .bool false] else zv, ?_, ?_⟩
                · unfold Instr.lookup
                  simp only [Sem.run_bind, run_underlying hd, Result.andThen_ok, hget, Sem.run_pure, run_checkKey hkd hkk', Instr.findKey, run_underlying hkd, hq, zeroValue, typeInfo, run_program, hi, hzz]
                · cases ok with
                  | true => exact .tup _ _ rfl (fun j v y hv hy => by
                      match j with
                      | 0 => simp at hv hy; subst hv; subst hy; exact hzr
                      | 1 => simp at hv hy; subst hv; subst hy; exact .bool _
                      | j + 2 => simp at hv)
                  | false => exact hzr
              · cases hz
    · cases h
  · cases h

theorem run_mput {kd : TypeDesc} {a v : Value} {x y : VV} (hk : kfit (qkOf kd) x = true) (ha : R G a x) (hv : R G v y) :
    ∀ (xs : List (VV × VV)) (es : List MapEntry) (n : Nat) (zs : List (VV × VV)), RM G es xs → mput x y xs = some zs →
      (∃ i u, Instr.findNow kd a es n = some (some (n + i, u)) ∧ ∃ e, es[i]? = some e ∧ R G e.key x ∧ ∀ born, RM G (es.set i ⟨a, v, born⟩) zs) ∨ (Instr.findNow kd a es n = some none ∧ ∀ born, RM G (es ++ [⟨a, v, born⟩]) zs)
  | [], [], n, zs, _, h => by
    simp only [mput, Option.some.injEq] at h
    subst h
    refine .inr ⟨rfl, fun born => ⟨rfl, fun i k z hi => ?_⟩⟩
    cases i with
    | zero => simp at hi; obtain ⟨rfl, rfl⟩ := hi; exact ⟨_, rfl, ha, hv⟩
    | succ i => simp at hi
  | [], e :: es, n, r, hm, _ => by have := hm.1; simp at this
  | y :: xs, [], n, r, hm, _ => by have := hm.1; simp at this
  | (k, z) :: xs, e :: es, n, zs, hm, h => by
    obtain ⟨h1, h2⟩ := hm.head
    simp only [mput] at h
    cases hq : keyEq x k with
    | none => simp [hq] at h
    | some t =>
      have hn := keyEq_now hk ha h1 hq
      cases t with
      | true =>
        simp only [hq, Option.some.injEq] at h
        subst h
        have hxk : R G e.key x := by
          unfold keyEq at hq
          split at hq
          · simp at hq; subst hq; exact h1
          · split at hq
            · rename_i e'; subst e'; simp at hq; subst hq; exact h1
            · cases hq
          · cases hq
        refine .inl ⟨0, e.val, by simp [Instr.findNow, hn], e, rfl, hxk, fun born => ⟨by simpa using hm.tail.1, fun i k' z' hi => ?_⟩⟩
        cases i with
        | zero => simp at hi; obtain ⟨rfl, rfl⟩ := hi; exact ⟨_, rfl, ha, hv⟩
        | succ i => simpa using hm.tail.2 i k' z' (by simpa using hi)
      | false =>
        simp only [hq] at h
        cases hr : mput x y xs with
        | none => simp [hr] at h
        | some ys =>
          simp only [hr, Option.map_some, Option.some.injEq] at h
          subst h
          have cons : ∀ es', RM G es' ys → RM G (e :: es') ((k, z) :: ys) := fun es' he => ⟨by simpa using he.1, fun i k' z' hi => by
            cases i with
            | zero => simp at hi; obtain ⟨rfl, rfl⟩ := hi; exact ⟨e, rfl, h1, h2⟩
            | succ i => simpa using he.2 i k' z' (by simpa using hi)⟩
          rcases run_mput hk ha hv xs es (n + 1) ys hm.tail hr with ⟨i, u, hf, e', he', hke, hall⟩ | ⟨hf, hall⟩
          · exact .inl ⟨i + 1, u, by simp only [Instr.findNow, hn, hf]; congr 3; omega, e', by simpa using he', hke, fun born => by simpa using cons _ (hall born)⟩
          · exact .inr ⟨by simp [Instr.findNow, hn, hf], fun born => by simpa using cons _ (hall born)⟩

theorem key_same {x : VV} {a b : Value} {kd : TypeDesc} (hk : kfit (qkOf kd) x = true) (ha : R G a x) (hb : R G b x) : (Instr.keyThatStays b a).run P w = .ok a w := by
  cases x with
  | int k n =>
    cases ha; cases hb
    simp [Instr.keyThatStays, Instr.sameBits]
  | str l =>
    generalize hl : l = l' at hb
    cases ha with
    | str a =>
      cases hb with
      | str b =>
        obtain rfl : a = b := Array.toList_inj.1 hl
        have : (Instr.sameBits 10000 (.string ⟨a⟩) (.string ⟨a⟩)) = true := by
          rw [Instr.sameBits]
          exact (MapKept.bytes_beq _ _).2 rfl
        simp [Instr.keyThatStays, this]
  | _ => cases kd <;> simp [qkOf, kfit] at hk

theorem Sim.set_map (h : Sim w0 G w s) {b : Nat} {xs ys : List (VV × VV)} (hb : s b = .map xs) (c' : Array MapEntry) (clock : Nat) (hm : RM G c'.toList ys) :
    Sim w0 G { w with heap := w.heap.setIfInBounds b (.map c' clock) } (s.set b (.map ys)) := by
  have ho := h.ok b
  rw [hb] at ho
  obtain ⟨hB, c, cl, hh, hsz, _⟩ := ho
  have hlt : b < w.heap.size := (Array.getElem?_eq_some_iff.1 hh).1
  have hother : ∀ k, k ≠ b → (w.heap.setIfInBounds b (.map c' clock))[k]? = w.heap[k]? := fun k hk => Array.getElem?_setIfInBounds_ne (Ne.symm hk)
  have hn : ∀ i, G.K b i = none := fun i => by
    cases hk : G.K b i with
    | none => rfl
    | some v =>
      have := h.K b i v hk
      simp [World.cell?, hh] at this
  refine ⟨h.below.trans ⟨rfl, rfl, rfl, by simp, fun k hk => hother k (by omega)⟩, fun x i v hk => ?_, fun x q hq => by simpa using h.cap x q hq, fun x => ?_, h.gl, h.rows.keep' (Gh.le.refl G) (by simp) (fun g _ hg => ⟨?_, hother g ?_, fun _ => rfl⟩) (fun x T xs rs hx => ?_)⟩
  rotate_left 2
  · rw [St.set_other _ _ (by rintro rfl; rw [hb] at hg; cases hg)]; exact hg
  · rintro rfl; rw [hb] at hg; cases hg
  · have hxb : x ≠ b := by rintro rfl; rw [St.set_same] at hx; cases hx
    rw [St.set_other _ _ hxb] at hx
    exact ⟨hx, hother x hxb⟩
  · have hne : x ≠ b := by rintro rfl; rw [hn] at hk; cases hk
    exact (World.cell?_of_block (w := w) (hother x hne)).trans (h.K x i v hk)
  · by_cases hx : x = b
    · subst hx
      rw [St.set_same]
      exact ⟨hB, c', clock, by simp [hlt], by simpa using hm.1, fun i k y hi => by simpa using hm.2 i k y hi⟩
    · rw [St.set_other s _ hx]
      exact (h.ok x).keep (hother x hx) (Gh.le.refl G) (fun _ => rfl)

theorem run_vupdate {T : TypeId} {m key v : Value} {x k y : VV} {s' : St} (hS : Sim w0 G w s) (hm : R G m x) (hkey : R G key k) (hv : R G v y)
    (h : vupdate (qi P T) (qi P (keyT (qi P T))) x k y s = some s') : ∃ w', (Instr.mapUpdate T m key v).run P w = .ok () w' ∧ Sim w0 G w' s' := by
  unfold vupdate at h
  split at h
  · rename_i kt et b hk
    split at h
    · rename_i es hb hkk
      have ho := hS.ok b
      rw [hb] at ho
      obtain ⟨_, c, clock, hh, hsz, hrel⟩ := ho
      have hd := kind_map hk
      have hkt : keyT (qi P T) = kt := by simp [keyT, hk]
      rw [hkt] at hkk
      obtain ⟨kd, hkd, hkk'⟩ := kind_key (P := P) hkk
      cases hm
      have hRM : RM G c.toList es := ⟨by simpa using hsz, fun i k x hi => by simpa using hrel i k x hi⟩
      have hget : (getObj b).run P w = .ok (.map c clock) w := by simp [getObj, Sem.run, hh]
      have hset : ∀ o, (setObj b o).run P w = .ok () { w with heap := w.heap.setIfInBounds b o } := fun o => by simp [setObj, Sem.run, hh]
      cases hp : mput k y es with
      | none => simp [hp] at h
      | some zs =>
        simp only [hp, Option.map_some, Option.some.injEq] at h
        subst h
        rcases run_mput hkk' hkey hv es c.toList 0 zs hRM hp with ⟨i, u, hf, e, he, hke, hall⟩ | ⟨hf, hall⟩
        · rw [Nat.zero_add] at hf
          have he' : c[i]? = some e := by simpa using he
          have hce : (c.modify i fun e => { e with key := key, val := v }) = (c.toList.set i ⟨key, v, e.born⟩).toArray := by
            apply Array.ext_getElem?
            intro j
            have hta : ((c.toList.set i ⟨key, v, e.born⟩).toArray)[j]? = (c.toList.set i ⟨key, v, e.born⟩)[j]? := by simp
            rw [Array.getElem?_modify, hta, List.getElem?_set]
            by_cases hj : i = j
            · subst hj
              have : i < c.size := (Array.getElem?_eq_some_iff.1 he').1
              simp only [this, Array.length_toList, if_true]
              rw [he']
              rfl
            · simp [hj]
          refine ⟨_, ?_, hS.set_map hb (c.modify i fun e => { e with key := key, val := v }) clock (by rw [hce]; exact hall e.born)⟩
          unfold Instr.mapUpdate
          simp only [Sem.run_bind, run_underlying hd, Result.andThen_ok, hget, Sem.run_pure, run_checkKey hkd hkk', Instr.findKey, run_underlying hkd, hf, he', Option.map_some, Option.getD_some, key_same (P := P) hkk' hkey hke, hset]
        · refine ⟨_, ?_, hS.set_map hb (c.push ⟨key, v, clock⟩) (clock + 1) (by simpa using hall clock)⟩
          unfold Instr.mapUpdate
          simp only [Sem.run_bind, run_underlying hd, Result.andThen_ok, hget, Sem.run_pure, run_checkKey hkd hkk', Instr.findKey, run_underlying hkd, hf, hset]
    · cases h
  · cases h
end
end Go.Proofs.YtbfgdblebepgcaaDoor
