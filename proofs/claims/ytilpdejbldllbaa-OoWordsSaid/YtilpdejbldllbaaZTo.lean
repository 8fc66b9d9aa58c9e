/- What is proved: Words and names, wherever one must stand: plain facts. Conditions: those that stand in the statements. -/
import Derived.Test.YtilpdejbldllbaaZTej
import Derived.KernelRfl
set_option linter.unusedSimpArgs false
set_option linter.unusedVariables false
set_option maxRecDepth 100000
namespace Go.Proofs.Ytilpdejbldllbaa
open Go.RowKit

/-- Whatever follows, these bytes are these signs, as long as there is room. -/
inductive Atom where
  | w (t : List UInt8)
  | m (c : UInt8)
  | c
  | b (c : UInt8)
def Atom.txt : Atom → List UInt8
  | .w t => t
  | .m u => [u]
  | .c => [58, 58]
  | .b u => [u]
def Atom.tok : Atom → List (List UInt8)
  | .w t => [t]
  | .m u => [[u]]
  | .c => [[58, 58]]
  | .b _ => []
def txA : List Atom → List UInt8
  | [] => []
  | a :: l => a.txt ++ txA l
def tkA : List Atom → List (List UInt8)
  | [] => []
  | a :: l => a.tok ++ tkA l
def isW : List Atom → Bool
  | .w _ :: _ => true
  | _ => false
def okT : List Atom → Bool
  | [] => true
  | .w t :: l => signB ⟨1, t, 0⟩ && !isW l && okT l
  | .m c :: l => decide (c = 40 ∨ c = 41 ∨ c = 123 ∨ c = 125 ∨ c = 44 ∨ c = 46 ∨ c = 59 ∨ c = 61) && okT l
  | .c :: l => okT l
  | .b c :: l => blankB c && okT l
theorem lex_one2 {t r : List UInt8} {k : Nat} {a : Nat} {out : List Sgn} (ht : t ≠ []) (hb : ∀ c s, t = c :: s → blankB c = false ∧ ¬ c.toNat = 35) (ho : oneK (t ++ r) = (k, t.length)) (ho2 : oneK t = (k, t.length)) (hl : out.length < 4096) :
    ∃ (x : Sgn), x.text = t ∧ signB x = true ∧ lexR (t ++ r) a out = lexR r (a + t.length) (out ++ [x]) := by
  cases t with
  | nil => exact absurd rfl ht
  | cons c s =>
    obtain ⟨h1, h2⟩ := hb c s rfl
    rw [List.cons_append] at ho
    refine ⟨⟨k, c :: s, a⟩, rfl, by simp [signB, ho2], ?_⟩
    rw [List.cons_append, lexR_sign h1 h2, ho]
    simp only
    rw [if_neg (by simp), if_neg (by omega), ← List.cons_append, List.drop_left' rfl, List.take_left' rfl]
theorem txA_np : ∀ (l : List Atom), isW l = false → okT l = true → NP (txA l)
  | [], _, _ => NP.nil
  | .w _ :: _, h, _ => by simp [isW] at h
  | .m c :: l, _, h => by
    simp only [okT, Bool.and_eq_true, decide_eq_true_eq] at h
    refine NP.cons ?_
    rcases h.1 with rfl | rfl | rfl | rfl | rfl | rfl | rfl | rfl <;> decide
  | .c :: l, _, _ => NP.cons (by decide)
  | .b c :: l, _, h => by
    simp only [okT, Bool.and_eq_true] at h
    refine NP.cons ?_
    have := h.1
    rw [blankB_mem, decide_eq_true_eq] at this
    rcases this with rfl | rfl | rfl | rfl <;> decide
theorem lexA : ∀ (l : List Atom) (a : Nat) (out : List Sgn), okT l = true → out.length + l.length ≤ 4096 → ∃ L, lexR (txA l) a out = .ok (out ++ L) ∧ Txt L (tkA l)
  | [], a, out, _, _ => ⟨[], by simp [txA, lexR_nil], rfl, fun x hx => by cases hx⟩
  | .w t :: l, a, out, h, hl => by
    simp only [okT, Bool.and_eq_true, Bool.not_eq_true'] at h
    obtain ⟨⟨h1, h2⟩, h3⟩ := h
    obtain ⟨c, s, rfl, hd, hp, hn, h32⟩ := name_one h1
    have hn2 := runN_full (c :: s) (txA l) hn (txA_np l h2 h3)
    rw [List.cons_append] at hn2
    simp only [List.length_cons] at hl
    obtain ⟨x, e1, e2, e3⟩ := lex_one2 (t := c :: s) (r := txA l) (k := 1) (a := a) (out := out) (by simp) (fun c' s' e => by injection e with e1 e2; subst e1; exact part_plain hp)
      (by rw [List.cons_append]; simp only [oneK, hd, hp, if_true, Bool.false_eq_true, if_false, hn2, if_neg h32]) (by simp only [oneK, hd, hp, if_true, Bool.false_eq_true, if_false, hn, if_neg h32]) (by omega)
    obtain ⟨L, f1, f2⟩ := lexA l (a + (c :: s).length) (out ++ [x]) h3 (by simp; omega)
    refine ⟨x :: L, ?_, ?_, ?_⟩
    · show lexR (c :: s ++ txA l) a out = _
      rw [e3, f1]; simp
    · simp [tkA, Atom.tok, e1, f2.1]
    · intro y hy
      rcases List.mem_cons.1 hy with rfl | hy
      · exact e2
      · exact f2.2 y hy
  | .m c :: l, a, out, h, hl => by
    simp only [okT, Bool.and_eq_true, decide_eq_true_eq] at h
    obtain ⟨h1, h3⟩ := h
    simp only [List.length_cons] at hl
    obtain ⟨x, e1, e2, e3⟩ := lex_one2 (t := [c]) (r := txA l) (k := 3) (a := a) (out := out) (by simp) (fun c' s' e => by
        injection e with e1 e2; subst e1
        rcases h1 with rfl | rfl | rfl | rfl | rfl | rfl | rfl | rfl <;> exact ⟨by decide, by decide⟩)
      (by rcases h1 with rfl | rfl | rfl | rfl | rfl | rfl | rfl | rfl <;> simp [oneK, digB, partB, markN, List.isPrefixOf, marks] <;> decide)
      (by rcases h1 with rfl | rfl | rfl | rfl | rfl | rfl | rfl | rfl <;> decide) (by omega)
    obtain ⟨L, f1, f2⟩ := lexA l (a + [c].length) (out ++ [x]) h3 (by simp; omega)
    refine ⟨x :: L, ?_, ?_, ?_⟩
    · show lexR ([c] ++ txA l) a out = _
      rw [e3, f1]; simp
    · simp [tkA, Atom.tok, e1, f2.1]
    · intro y hy
      rcases List.mem_cons.1 hy with rfl | hy
      · exact e2
      · exact f2.2 y hy
  | .c :: l, a, out, h, hl => by
    simp only [List.length_cons] at hl
    obtain ⟨x, e1, e2, e3⟩ := lex_one2 (t := [58, 58]) (r := txA l) (k := 3) (a := a) (out := out) (by simp) (fun c' s' e => by
        injection e with e1 e2; subst e1; exact ⟨by decide, by decide⟩)
      (by simp [oneK, digB, partB, markN, List.isPrefixOf]) (by decide) (by omega)
    obtain ⟨L, f1, f2⟩ := lexA l (a + ([58, 58] : List UInt8).length) (out ++ [x]) h (by simp; omega)
    refine ⟨x :: L, ?_, ?_, ?_⟩
    · show lexR ([58, 58] ++ txA l) a out = _
      rw [e3, f1]; simp
    · simp [tkA, Atom.tok, e1, f2.1]
    · intro y hy
      rcases List.mem_cons.1 hy with rfl | hy
      · exact e2
      · exact f2.2 y hy
  | .b c :: l, a, out, h, hl => by
    simp only [okT, Bool.and_eq_true] at h
    simp only [List.length_cons] at hl
    obtain ⟨L, f1, f2⟩ := lexA l (a + 1) out h.2 (by omega)
    refine ⟨L, ?_, f2⟩
    show lexR (c :: txA l) a out = _
    rw [lexR_blank h.1, f1]

def wPre : Nat → List UInt8
  | 0 => [99, 108, 97, 115, 115, 32]
  | 1 => [99, 108, 97, 115, 115, 32, 65, 32, 101, 120, 116, 101, 110, 100, 115, 32]
  | 2 => [99, 108, 97, 115, 115, 32, 65, 32, 123, 32]
  | 3 => [99, 108, 97, 115, 115, 32, 65, 32, 123, 32, 109, 40]
  | 4 => [99, 108, 97, 115, 115, 32, 65, 32, 123, 32, 109, 40, 41, 32, 123, 32]
  | 5 => [99, 108, 97, 115, 115, 32, 65, 32, 123, 32, 109, 40, 41, 32, 123, 32, 120, 32, 61, 32]
  | 6 => [99, 108, 97, 115, 115, 32, 65, 32, 123, 32, 109, 40, 41, 32, 123, 32, 120, 46]
  | 7 => [99, 108, 97, 115, 115, 32, 65, 32, 123, 32, 109, 40, 41, 32, 123, 32, 114, 101, 116, 117, 114, 110, 32]
  | 8 => [99, 108, 97, 115, 115, 32, 65, 32, 123, 32, 109, 40, 41, 32, 123, 32, 120, 46, 109, 40]
  | _ => [99, 108, 97, 115, 115, 32, 65, 32, 123, 32, 109, 40, 41, 32, 123, 32]
def wPost : Nat → List UInt8
  | 0 => [32, 123, 32, 125]
  | 1 => [32, 123, 32, 125]
  | 2 => [40, 41, 32, 123, 32, 125, 32, 125]
  | 3 => [41, 32, 123, 32, 125, 32, 125]
  | 4 => [32, 61, 32, 120, 59, 32, 125, 32, 125]
  | 5 => [59, 32, 125, 32, 125]
  | 6 => [32, 61, 32, 121, 59, 32, 125, 32, 125]
  | 7 => [59, 32, 125, 32, 125]
  | 8 => [41, 59, 32, 125, 32, 125]
  | _ => [58, 58, 109, 40, 41, 59, 32, 125, 32, 125]
def wWord : Nat → List UInt8
  | 0 => [99, 108, 97, 115, 115]
  | 1 => [101, 120, 116, 101, 110, 100, 115]
  | 2 => [115, 116, 97, 116, 105, 99]
  | 3 => [110, 101, 119]
  | 4 => [114, 101, 116, 117, 114, 110]
  | 5 => [105, 102]
  | 6 => [101, 108, 115, 101]
  | _ => [108, 111, 111, 112]
def wAt (o : List UInt8) : Nat → List Atom
  | 0 => [.w [99, 108, 97, 115, 115], .b 32, .w o, .b 32, .m 123, .b 32, .m 125]
  | 1 => [.w [99, 108, 97, 115, 115], .b 32, .w [65], .b 32, .w [101, 120, 116, 101, 110, 100, 115], .b 32, .w o, .b 32, .m 123, .b 32, .m 125]
  | 2 => [.w [99, 108, 97, 115, 115], .b 32, .w [65], .b 32, .m 123, .b 32, .w o, .m 40, .m 41, .b 32, .m 123, .b 32, .m 125, .b 32, .m 125]
  | 3 => [.w [99, 108, 97, 115, 115], .b 32, .w [65], .b 32, .m 123, .b 32, .w [109], .m 40, .w o, .m 41, .b 32, .m 123, .b 32, .m 125, .b 32, .m 125]
  | 4 => [.w [99, 108, 97, 115, 115], .b 32, .w [65], .b 32, .m 123, .b 32, .w [109], .m 40, .m 41, .b 32, .m 123, .b 32, .w o, .b 32, .m 61, .b 32, .w [120], .m 59, .b 32, .m 125, .b 32, .m 125]
  | 5 => [.w [99, 108, 97, 115, 115], .b 32, .w [65], .b 32, .m 123, .b 32, .w [109], .m 40, .m 41, .b 32, .m 123, .b 32, .w [120], .b 32, .m 61, .b 32, .w o, .m 59, .b 32, .m 125, .b 32, .m 125]
  | 6 => [.w [99, 108, 97, 115, 115], .b 32, .w [65], .b 32, .m 123, .b 32, .w [109], .m 40, .m 41, .b 32, .m 123, .b 32, .w [120], .m 46, .w o, .b 32, .m 61, .b 32, .w [121], .m 59, .b 32, .m 125, .b 32, .m 125]
  | 7 => [.w [99, 108, 97, 115, 115], .b 32, .w [65], .b 32, .m 123, .b 32, .w [109], .m 40, .m 41, .b 32, .m 123, .b 32, .w [114, 101, 116, 117, 114, 110], .b 32, .w o, .m 59, .b 32, .m 125, .b 32, .m 125]
  | 8 => [.w [99, 108, 97, 115, 115], .b 32, .w [65], .b 32, .m 123, .b 32, .w [109], .m 40, .m 41, .b 32, .m 123, .b 32, .w [120], .m 46, .w [109], .m 40, .w o, .m 41, .m 59, .b 32, .m 125, .b 32, .m 125]
  | _ => [.w [99, 108, 97, 115, 115], .b 32, .w [65], .b 32, .m 123, .b 32, .w [109], .m 40, .m 41, .b 32, .m 123, .b 32, .w o, .c, .w [109], .m 40, .m 41, .m 59, .b 32, .m 125, .b 32, .m 125]
def wSrc (o : List UInt8) : Nat → Cls
  | 0 => ⟨o, [], []⟩
  | 1 => ⟨[65], o, []⟩
  | 2 => ⟨[65], [], [⟨false, o, [], []⟩]⟩
  | 3 => ⟨[65], [], [⟨false, [109], [o], []⟩]⟩
  | 4 => ⟨[65], [], [⟨false, [109], [], [.mk 2 o [120] [] [] [] [] []]⟩]⟩
  | 5 => ⟨[65], [], [⟨false, [109], [], [.mk 2 [120] o [] [] [] [] []]⟩]⟩
  | 6 => ⟨[65], [], [⟨false, [109], [], [.mk 4 [120] [121] [] o [] [] []]⟩]⟩
  | 7 => ⟨[65], [], [⟨false, [109], [], [.mk 7 [] o [] [] [] [] []]⟩]⟩
  | 8 => ⟨[65], [], [⟨false, [109], [], [.mk 5 [] [120] [] [109] [o] [] []]⟩]⟩
  | _ => ⟨[65], [], [⟨false, [109], [], [.mk 6 [] [] o [109] [] [] []]⟩]⟩
def wBad (p w : Nat) : Bool := match parseS (wPre p ++ wWord w ++ wPost p) with
  | .error (i, e) => e == 150 && decide ((wPre p).length ≤ i)
  | _ => false
theorem wBads : ((List.range 10).all fun p => (List.range 8).all fun w => wBad p w) = true := by kernel_rfl
/-- A word is no name. -/
theorem word_bad (p w : Nat) (hp : p < 10) (hw : w < 8) : ∃ i, parseS (wPre p ++ wWord w ++ wPost p) = .error (i, 150) ∧ (wPre p).length ≤ i := by
  have h := wBads
  rw [List.all_eq_true] at h
  have h2 := h p (List.mem_range.2 hp)
  rw [List.all_eq_true] at h2
  have h3 := h2 w (List.mem_range.2 hw)
  unfold wBad at h3
  split at h3
  · rename_i i e he
    simp only [Bool.and_eq_true, beq_iff_eq, decide_eq_true_eq] at h3
    exact ⟨i, by rw [he, h3.1], h3.2⟩
  · cases h3
theorem wAt_txt (o : List UInt8) (p : Nat) (hp : p < 10) : txA (wAt o p) = wPre p ++ o ++ wPost p := by
  match p, hp with
  | 0, _ => simp [wAt, txA, Atom.txt, wPre, wPost]
  | 1, _ => simp [wAt, txA, Atom.txt, wPre, wPost]
  | 2, _ => simp [wAt, txA, Atom.txt, wPre, wPost]
  | 3, _ => simp [wAt, txA, Atom.txt, wPre, wPost]
  | 4, _ => simp [wAt, txA, Atom.txt, wPre, wPost]
  | 5, _ => simp [wAt, txA, Atom.txt, wPre, wPost]
  | 6, _ => simp [wAt, txA, Atom.txt, wPre, wPost]
  | 7, _ => simp [wAt, txA, Atom.txt, wPre, wPost]
  | 8, _ => simp [wAt, txA, Atom.txt, wPre, wPost]
  | 9, _ => simp [wAt, txA, Atom.txt, wPre, wPost]
  | p + 10, h => omega
theorem wAt_ok (o : List UInt8) (ho : isNameB o = true) (p : Nat) (hp : p < 10) : okT (wAt o p) = true ∧ (wAt o p).length ≤ 100 := by
  have h := isName_sign ho
  match p, hp with
  | 0, _ => simp [wAt, okT, isW, h]; decide
  | 1, _ => simp [wAt, okT, isW, h]; decide
  | 2, _ => simp [wAt, okT, isW, h]; decide
  | 3, _ => simp [wAt, okT, isW, h]; decide
  | 4, _ => simp [wAt, okT, isW, h]; decide
  | 5, _ => simp [wAt, okT, isW, h]; decide
  | 6, _ => simp [wAt, okT, isW, h]; decide
  | 7, _ => simp [wAt, okT, isW, h]; decide
  | 8, _ => simp [wAt, okT, isW, h]; decide
  | 9, _ => simp [wAt, okT, isW, h]; decide
  | p + 10, h => omega
theorem wAt_tok (o : List UInt8) (p : Nat) (hp : p < 10) (ho : o ≠ []) : tkA (wAt o p) = srcT [wSrc o p] := by
  match p, hp with
  | 0, _ => simp [wAt, tkA, Atom.tok, wSrc, srcT, clsT, mthsT, mthT, namesT, argT, tailT, blkT, stmT, dstT, ho]
  | 1, _ => simp [wAt, tkA, Atom.tok, wSrc, srcT, clsT, mthsT, mthT, namesT, argT, tailT, blkT, stmT, dstT, ho]
  | 2, _ => simp [wAt, tkA, Atom.tok, wSrc, srcT, clsT, mthsT, mthT, namesT, argT, tailT, blkT, stmT, dstT, ho]
  | 3, _ => simp [wAt, tkA, Atom.tok, wSrc, srcT, clsT, mthsT, mthT, namesT, argT, tailT, blkT, stmT, dstT, ho]
  | 4, _ => simp [wAt, tkA, Atom.tok, wSrc, srcT, clsT, mthsT, mthT, namesT, argT, tailT, blkT, stmT, dstT, ho]
  | 5, _ => simp [wAt, tkA, Atom.tok, wSrc, srcT, clsT, mthsT, mthT, namesT, argT, tailT, blkT, stmT, dstT, ho]
  | 6, _ => simp [wAt, tkA, Atom.tok, wSrc, srcT, clsT, mthsT, mthT, namesT, argT, tailT, blkT, stmT, dstT, ho]
  | 7, _ => simp [wAt, tkA, Atom.tok, wSrc, srcT, clsT, mthsT, mthT, namesT, argT, tailT, blkT, stmT, dstT, ho]
  | 8, _ => simp [wAt, tkA, Atom.tok, wSrc, srcT, clsT, mthsT, mthT, namesT, argT, tailT, blkT, stmT, dstT, ho]
  | 9, _ => simp [wAt, tkA, Atom.tok, wSrc, srcT, clsT, mthsT, mthT, namesT, argT, tailT, blkT, stmT, dstT, ho]
  | p + 10, h => omega
theorem wSrc_ok (o : List UInt8) (ho : isNameB o = true) (p : Nat) (hp : p < 10) : headC (wSrc o p) = true ∧ (allM [wSrc o p]).all (fun m => okA m.body 1) = true ∧ totM (allM [wSrc o p]) ≤ 1024 := by
  have hA : isNameB [65] = true := by decide
  have hm : isNameB [109] = true := by decide
  have hx : isNameB [120] = true := by decide
  have hy : isNameB [121] = true := by decide
  match p, hp with
  | 0, _ => simp [wSrc, headC, headM, allM, totM, totL, totS, okA, okS, mayB, needL, namesB, ho, hA, hm, hx, hy]
  | 1, _ => simp [wSrc, headC, headM, allM, totM, totL, totS, okA, okS, mayB, needL, namesB, ho, hA, hm, hx, hy]
  | 2, _ => simp [wSrc, headC, headM, allM, totM, totL, totS, okA, okS, mayB, needL, namesB, ho, hA, hm, hx, hy]
  | 3, _ => simp [wSrc, headC, headM, allM, totM, totL, totS, okA, okS, mayB, needL, namesB, ho, hA, hm, hx, hy]
  | 4, _ => simp [wSrc, headC, headM, allM, totM, totL, totS, okA, okS, mayB, needL, namesB, ho, hA, hm, hx, hy]
  | 5, _ => simp [wSrc, headC, headM, allM, totM, totL, totS, okA, okS, mayB, needL, namesB, ho, hA, hm, hx, hy]
  | 6, _ => simp [wSrc, headC, headM, allM, totM, totL, totS, okA, okS, mayB, needL, namesB, ho, hA, hm, hx, hy]
  | 7, _ => simp [wSrc, headC, headM, allM, totM, totL, totS, okA, okS, mayB, needL, namesB, ho, hA, hm, hx, hy]
  | 8, _ => simp [wSrc, headC, headM, allM, totM, totL, totS, okA, okS, mayB, needL, namesB, ho, hA, hm, hx, hy]
  | 9, _ => simp [wSrc, headC, headM, allM, totM, totL, totS, okA, okS, mayB, needL, namesB, ho, hA, hm, hx, hy]
  | p + 10, h => omega
/-- A name is one, wherever one must stand. -/
theorem name_good (o : List UInt8) (ho : isNameB o = true) (p : Nat) (hp : p < 10) : parseS (wPre p ++ o ++ wPost p) = .ok [wSrc o p] := by
  have hne : o ≠ [] := by
    rintro rfl
    exact absurd ho (by decide)
  obtain ⟨h1, h2⟩ := wAt_ok o ho p hp
  obtain ⟨L, h3, h4⟩ := lexA (wAt o p) 0 [] h1 (by simp; omega)
  rw [wAt_tok o p hp hne] at h4
  obtain ⟨h5, h6, h7⟩ := wSrc_ok o ho p hp
  have hlen : (wPre p ++ o ++ wPost p).length ≤ 16384 := by
    have h32 : o.length ≤ 32 := isName_len ho
    have : (wPre p).length ≤ 100 ∧ (wPost p).length ≤ 100 := by constructor <;> first | (unfold wPre; split <;> simp; done) | (unfold wPost; split <;> simp; done)
    simp only [List.length_append]; omega
  rw [wAt_txt o p hp, List.nil_append] at h3
  obtain ⟨n', e⟩ := src_read (wPre p ++ o ++ wPost p).length [wSrc o p] (L.length + 1) 0 [] L (by simp [h5]) h6 (by simp) (by omega) (by omega) h4
  unfold parseS lexSigns
  rw [if_neg (by omega)]
  show (match lexR _ 0 [] with | .error x => _ | .ok L => _) = _
  rw [h3]
  simp only
  rw [e]
  rfl
end Go.Proofs.Ytilpdejbldllbaa
