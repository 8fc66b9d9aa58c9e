/- What is proved: A declaration's domains, as they are read. Conditions: those that stand in the statements. -/
import Derived.Test.YtbfgdblebepgcaaDoorZUe
import Derived.Test.YtbfgdblebepgcaaDoorZPk
import Derived.Test.YtbfgdblebepgcaaDoorZJoin
set_option linter.unusedSimpArgs false
set_option linter.unusedVariables false
set_option maxRecDepth 100000
namespace Go.Proofs.YtbfgdblebepgcaaDoor
open Go.RowKit
attribute [local go_sem] Ru_at Ru_mk2 Ru_free Ru_set Ru_gt Ru_dis Ru_own Ru_ok Ru_ownd

/-- Where a declaration is read: its domains so far. -/
abbrev Dc (s : St) (b : Nat) (nm : List UInt8) (ts : List (List UInt8)) (o : Own) : St := (s.own o 9 1 ts.length).set b (.obj 46 [.str nm, .lst (strs ts) o])
def DcC (s : St) (b r b2 : Nat) (ts : List (List UInt8)) (o : Own) : Prop := OwnOk s o ts.length ∧ NotOwn o b ∧ NotOwn o r ∧ NotOwn o b2
set_option maxHeartbeats 2000000 in
theorem udom_S (s : St) (r e b b2 : Nat) (nm : List UInt8) (hb : s b = .free) (n1 : ¬ b = r) (n2 : ¬ b2 = b) (n3 : ¬ b2 = r) (h2 : s b2 = .obj 69 [.ptr r 0])
    (ts : List (List UInt8)) (o : Own) (L : List Sgn) (hC : DcC s b r b2 ts o) (hl : ts.length ≤ 100000) :
    SCalls Tryd.prog 47 [.ptr b 0, .ptr b2 0] (Ru (Dc s b nm ts o) r e L)
      (PQ (fun _ => .tup []) (fun x L o' => Ru (Dc s b nm (ts ++ [x]) o') r e L) (fun x _ o' => DcC s b r b2 (ts ++ [x]) o') (fun L => Ru s r e L) (nameU e L)) := by
  obtain ⟨hO, q1, q2, q3⟩ := hC
  have h1 := fun s => uname_S s r e L
  have hm : (strs ts).length = ts.length := by simp [strs]
  have hfg : Fg (Dc s b nm ts o) s := (Fg.of_set _ (by rw [own_rd q1]; exact hb)).trans (Fg.own hO)
  have HF := Lib.hid hfg
  clear hfg
  cases hr : nameU e L with
  | error q =>
    rw [hr] at h1
    clear hr
    refine G_enter Tryd.func47 rfl Tryd.ntmps47 rfl fun Q hQ hQe => ?_
    (repeat' (first
      | with_reducible first | refine L_seq ?_ | refine L_blk ?_ | refine L_skip ?_ | refine L_endblk ?_ | refine L_ret ?_ | refine L_exit ?_ | refine X_code ?_ | refine X_back ?_ | refine X_blk ?_ | refine X_past (by decide) ?_ | refine L_back ?_
      | ((with_reducible refine Kof.use hK ?_); clear hK hE K E)
      | ((with_reducible refine Eof.use hE ?_); (try clear hK hE K E))
      | ((with_reducible refine Kof.use hKh ?_); clear hKh Kh)
      | ((with_reducible refine Kof.use hKb (P_next ?_)); clear hKb Kb)
      | with_reducible refine G_plan 0 [([0, 1, 2], 3, [[0, 1]]), ([4], 5, [[], []]), ([6], 7, [[], [], []])] [] hQe fun K E hK hE => ?_
      | ((with_reducible refine W_cond (fun h => ?_) (fun h => ?_)) <;> (try (exfalso; first | assumption | omega)))
      | ((with_reducible first | refine G_region fun K E hK hE => ?_ | refine W_if ?_ | refine W_ifS ?_ | refine P_heads fun Kh hKh => ?_ | refine P_fin fun Kh hKh => ?_ | refine P_each fun Kb hKb => ?_ | refine W_and ?_) <;> (try simp (disch := first | assumption | omega) only [go_sem, seval, hm, *]))
      | ((with_reducible refine call_pw can44 (h1 _) (fun a Lx h => ?_) (fun at_ er Lx h => ?_)) <;> (try simp (disch := first | assumption | omega) only [go_sem, seval, hm, *]))
      | ((with_reducible refine call_pw can44 (uname_S _ _ _ _) (fun a Lx h => ?_) (fun at_ er Lx h => ?_)) <;> (try simp (disch := first | assumption | omega) only [go_sem, seval, hm, *]))
      | ((with_reducible refine W_fresh (fun b hb => ?_)); (repeat (obtain ⟨_, hb⟩ := hb)); (try simp (disch := first | assumption | omega) only [go_sem, seval, hm, *]))
      | ((with_reducible refine W_app (fun o2 ho => ?_)); (try simp (disch := assumption) only [disown_set, disown_own, ownok_o, ownok_m, List.length_map, List.length_cons, List.length_nil, Nat.zero_add, hm] at ho); (repeat (obtain ⟨_, ho⟩ := ho)); (try simp (disch := first | assumption | omega) only [go_sem, seval, hm, *]))
      | ((with_reducible refine W_gd (fun h => ?_) (fun h => ?_)) <;> (try (exfalso; first | assumption | omega)) <;> (try simp (disch := first | assumption | omega) only [go_sem, seval, hm, *]))))
    all_goals first
      | (cases h; done)
      | (refine G_pan hQ ?_
         cases h
         exact ⟨_, Fg.ru HF, rfl, _, rfl⟩)
  | ok q =>
    obtain ⟨x, L'⟩ := q
    rw [hr] at h1
    have h1r := fun s => (h1 s).ret
    clear hr h1
    refine G_enter Tryd.func47 rfl Tryd.ntmps47 rfl fun Q hQ hQe => ?_
    (repeat' (first
      | with_reducible first | refine L_seq ?_ | refine L_blk ?_ | refine L_skip ?_ | refine L_endblk ?_ | refine L_ret ?_ | refine L_exit ?_ | refine X_code ?_ | refine X_back ?_ | refine X_blk ?_ | refine X_past (by decide) ?_ | refine L_back ?_
      | ((with_reducible refine Kof.use hK ?_); clear hK hE K E)
      | ((with_reducible refine Eof.use hE ?_); (try clear hK hE K E))
      | ((with_reducible refine Kof.use hKh ?_); clear hKh Kh)
      | ((with_reducible refine Kof.use hKb (P_next ?_)); clear hKb Kb)
      | with_reducible refine G_plan 0 [([0, 1, 2], 3, [[0, 1]]), ([4], 5, [[], []]), ([6], 7, [[], [], []])] [] hQe fun K E hK hE => ?_
      | ((with_reducible refine W_cond (fun h => ?_) (fun h => ?_)) <;> (try (exfalso; first | assumption | omega)))
      | ((with_reducible first | refine G_region fun K E hK hE => ?_ | refine call_ret can44 (h1r _) ?_ | refine W_if ?_ | refine W_ifS ?_ | refine P_heads fun Kh hKh => ?_ | refine P_fin fun Kh hKh => ?_ | refine P_each fun Kb hKb => ?_ | refine W_and ?_) <;> (try simp (disch := first | assumption | omega) only [go_sem, seval, hm, Ru_ok, Ru_dis, Ru_own, Ru_ownd, *]))
      | ((with_reducible refine call_pw can44 (uname_S _ _ _ _) (fun a Lx h => ?_) (fun at_ er Lx h => ?_)) <;> (try simp (disch := first | assumption | omega) only [go_sem, seval, hm, Ru_ok, Ru_dis, Ru_own, Ru_ownd, *]))
      | ((with_reducible refine W_fresh (fun b hb => ?_)); (repeat (obtain ⟨_, hb⟩ := hb)); (try simp (disch := first | assumption | omega) only [go_sem, seval, hm, Ru_ok, Ru_dis, Ru_own, Ru_ownd, *]))
      | ((with_reducible refine W_app (fun o2 ho => ?_)); (try simp (disch := assumption) only [disown_set, disown_own, ownok_o, ownok_m, List.length_map, List.length_cons, List.length_nil, Nat.zero_add, hm, Ru_ok, Ru_dis, Ru_own, Ru_ownd] at ho); (repeat (obtain ⟨_, ho⟩ := ho)); (try simp (disch := first | assumption | omega) only [go_sem, seval, hm, Ru_ok, Ru_dis, Ru_own, Ru_ownd, *]))
      | ((with_reducible refine W_gd (fun h => ?_) (fun h => ?_)) <;> (try (exfalso; first | assumption | omega)) <;> (try simp (disch := first | assumption | omega) only [go_sem, seval, hm, Ru_ok, Ru_dis, Ru_own, Ru_ownd, *]))))
    all_goals (first | refine G_ret hQ (by simp (disch := first | assumption | omega) only [res47, go_sem, seval, *] <;> rfl) ?_ | refine G_norm hQ (by simp (disch := first | assumption | omega) only [res47, go_sem, seval, *] <;> rfl) ?_ | refine G_pan hQ ?_)
    all_goals exact ⟨_, _, Wk.refl _, Fg.refl _, rfl, o2, by simp [Dc, strs], by simpa using ho, by assumption, by assumption, ho.not (by rw [h2]; simp)⟩
theorem udoms_S (s : St) (r e b b2 : Nat) (nm : List UInt8) (ow : Own) (L : List Sgn) (hG : GoodU L) (hL : L.length ≤ 50000) (hb : s b = .free) (n1 : ¬ b = r) (n2 : ¬ b2 = b) (n3 : ¬ b2 = r) (h2 : s b2 = .obj 69 [.ptr r 0]) :
    SCalls Tryd.prog 46 [.ptr r 0, .fn 47 [.ptr b 0, .ptr b2 0], .lst [[.int .i64 1]] ow] (Ru (s.set b (.obj 46 [.str nm, .lst [] .full])) r e L)
      (PQ (fun _ => .tup []) (fun xs L o' => Ru (Dc s b nm xs o') r e L) (fun xs _ o' => DcC s b r b2 xs o') (fun L => Ru s r e L) (listU e (nameU e) [1] L)) :=
  ulist_S (fun ts o => Dc s b nm ts o) (DcC s b r b2) s r e (nameU e) 47 [.ptr b 0, .ptr b2 0] [1] ow (by decide) can47
    (fun ts o L hC hG hl => udom_S s r e b b2 nm hb n1 n2 n3 h2 ts o L hC hl) (fun L x L' h => nameU_sub h)
    (fun ts o hC => (Fg.of_set _ (by rw [own_rd hC.2.1]; exact hb)).trans (Fg.own hC.1)) .full ⟨rfl, trivial, trivial, trivial⟩ L hG hL

structure Dm where
  name : List UInt8
  size : Int
def dmC (d : Dm) : List VV := [.str d.name, .int .i64 d.size]
structure Dcl where
  name : List UInt8
  doms : List (List UInt8)
def dclC (d : Dcl) : List VV := [.str d.name, .lst (strs d.doms) .no]
structure Pgm where
  doms : List Dm
  decls : List Dcl
  rules : List Rul
def pgC (x : Pgm) : List VV := [.lst (x.doms.map dmC) .no, .lst (x.decls.map dclC) .no, .lst (x.rules.map rulC) .no]
abbrev rsP : List (Nat × TypeId × Nat) := [(0, 44, 2), (1, 46, 2), (2, 52, 4)]
/-- A program that is read, the reader being outermost. -/
abbrev Pg (s : St) (p r e : Nat) (x : Pgm) (L : List Sgn) : St := Ru (s.set p (.pk 26 (pgC x) rsP)) r e L
def domU (e : Nat) (x : Pgm) (L : List Sgn) : PU Pgm :=
  bu (roomU e L x.doms.length 32 true) fun _ L => bu (mustU e L [100, 111, 109]) fun _ L => bu (nameU e L) fun n L => bu (numU e L) fun z L => bu (mustU e L [46]) fun _ L => .ok (⟨x.doms ++ [⟨n, (z : Nat)⟩], x.decls, x.rules⟩, L)
def relU (e : Nat) (x : Pgm) (L : List Sgn) : PU Pgm :=
  bu (roomU e L x.decls.length 32 true) fun _ L => bu (mustU e L [114, 101, 108]) fun _ L => bu (nameU e L) fun n L => bu (listU e (nameU e) [1] L) fun ds L => bu (mustU e L [46]) fun _ L => .ok (⟨x.doms, x.decls ++ [⟨n, ds⟩], x.rules⟩, L)
def rulU (e : Nat) (x : Pgm) (L : List Sgn) : PU Pgm :=
  bu (roomU e L x.rules.length 64 (nextB [1] L)) fun _ L => bu (ruleU e L) fun y L => .ok (⟨x.doms, x.decls, x.rules ++ [y]⟩, L)
def itemU (e : Nat) (x : Pgm) (L : List Sgn) : PU Pgm := if isT L 0 [100, 111, 109] = true then domU e x L else if isT L 0 [114, 101, 108] = true then relU e x L else rulU e x L
theorem Ru_unpk {s : St} {p r e T' sz n : Nat} {L : List Sgn} {o : Own} {c c' : Cell} (hpr : ¬ p = r) (ho : NotOwn o p) (hr : NotOwn o r) :
    ((Ru (s.set p c) r e L).own o T' sz n).set p c' = Ru ((s.own o T' sz n).set p c') r e L := by
  rw [Ru_own hr, own_push ho, Ru_set (by simp [hpr]), St.set_set]
theorem Ru_pack {s : St} {p r e T T' sz i n : Nat} {L : List Sgn} {o : Own} {xs ys : List VV} {rs rs' : List (Nat × TypeId × Nat)} {l : List (List VV)} (hpr : ¬ p = r) (ho : NotOwn o p) (hr : NotOwn o r) (hO : OwnOk s o n) (hn : l.length = n)
    (hi : xs[i]? = some (.lst l o)) (hy : ys = xs.set i (.lst l .no)) (hrs : ∀ r, r ∈ rs' → r = (i, T', sz) ∨ (r ∈ rs ∧ r.1 ≠ i)) :
    GS (Ru ((s.own o T' sz n).set p (.pk T xs rs)) r e L) (Ru (s.set p (.pk T ys rs')) r e L) := by
  subst hy
  subst hn
  have h := GS.pack (s := Ru ((s.own o T' sz l.length).set p (.pk T xs rs)) r e L) (b := p) (T := T) (xs := xs) (rs := rs) (rs' := rs') (i := i) (l := l) (o := o) (T' := T') (sz := sz)
    (by rw [Ru_gt hpr, St.set_same]) hi (by rw [Ru_ownd hr, owned_set ho, owned_own hO]; trivial) hrs
  rwa [Ru_dis hr, disown_set ho, disown_own hO, Ru_set (by simp [hpr]), St.set_set] at h
theorem WkL.refl : ∀ x : List VV, WkL x x
  | [] => .nil
  | x :: xs => .same x (WkL.refl xs)
theorem Ru_wk {s : St} {p r e T i : Nat} {L : List Sgn} {xs ys : List VV} {rs : List (Nat × TypeId × Nat)} {l l' : List (List VV)} (hpr : ¬ p = r) (hi : xs[i]? = some (.lst l .no)) (hl : l'.length = l.length)
    (hw : ∀ (i : Nat) (x' : List VV), l'[i]? = some x' → ∃ x, l[i]? = some x ∧ WkL x x') (hy : ys = xs.set i (.lst l' .no)) :
    GS (Ru (s.set p (.pk T xs rs)) r e L) (Ru (s.set p (.pk T ys rs)) r e L) := by
  subst hy
  have h := GS.wkrow (s := Ru (s.set p (.pk T xs rs)) r e L) (b := p) (T := T) (xs := xs) (rs := rs) (by rw [Ru_gt hpr, St.set_same]) hi hl hw
  rwa [Ru_set (by simp [hpr]), St.set_set] at h
theorem wk_last {l : List (List VV)} {x x' : List VV} (h : WkL x x') : ∀ (i : Nat) (y' : List VV), (l ++ [x'])[i]? = some y' → ∃ y, (l ++ [x])[i]? = some y ∧ WkL y y' := by
  intro i y' hy
  by_cases hi : i < l.length
  · rw [List.getElem?_append_left hi] at hy ⊢
    exact ⟨y', hy, WkL.refl y'⟩
  · rw [List.getElem?_append_right (by omega)] at hy ⊢
    cases hk : i - l.length with
    | zero => rw [hk] at hy; simp at hy; subst hy; exact ⟨x, rfl, h⟩
    | succ k => rw [hk] at hy; simp at hy
theorem own_base {s : St} {o o2 : Own} {T sz n m : Nat} (h : OwnOk (s.own o2 T sz n) o m) : OwnOk s o m := by
  cases o with
  | at_ x => simp only [OwnOk, own_fr] at h; exact h.2
  | _ => exact h
end Go.Proofs.YtbfgdblebepgcaaDoor
