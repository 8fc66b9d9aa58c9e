/- Walks of functions that the claim reaches, and plain facts of them. Conditions: those in the statements. -/
import Derived.Test.YtadbggfpnhkmbaaGreatQqSf
import Derived.Test.YtadbggfpnhkmbaaGreatQqPkj
import Derived.Test.YtadbggfpnhkmbaaGreatQqGpj
import Derived.Test.YtadbggfpnhkmbaaGreatQqFacts
set_option linter.unusedSimpArgs false
set_option linter.unusedVariables false
namespace Go.Proofs.YtadbggfpnhkmbaaGreat
open Go.RowKit Go.Lib
def rowV (r:List Int):VV:=.lst (intsL r) .no
theorem row_read {G:Gh}{v:Value}{r:List Int}{o:Own}(h:R G v (.lst (intsL r) o)) :
  ∃ba b off c,v=.slice ba r.length c∧(r.length=0∨ba=some ⟨b,off,none⟩)∧∀(j:Nat) (x:Int),r[j]?=some x→G.K b (off+j)=some (.int .i64 x):=by
 generalize hl:intsL r=l at h
 cases h with
 |emp a cap o ho=>
  have:r=[]:=by cases r with
   |nil=>rfl
   |cons a t=>cases hl
  subst this
  exact⟨a,0,0,cap,rfl,.inl rfl,fun j x hx=>by simp at hx⟩
 |lst b off len cap sz xs o f hl' hc hz h1 hK hR ho=>
  subst hl
  rw[intsL_len]at hl'
  subst hl'
  refine⟨_,b,off,cap,rfl,.inr rfl,fun j x hx=>?_⟩
  have hj:=(List.getElem?_eq_some_iff.1 hx).1
  have hsz:sz=1:=by
   have:=hz [VV.int .i64 x] (List.mem_of_getElem? (intsL_at hx))
   simpa using this.symm
  subst hsz
  have h2:=hK j 0 hj (by omega)
  have h3:=hR j 0 [VV.int .i64 x] (.int .i64 x) (intsL_at hx) rfl
  cases h4:f j 0 with
  |int k n=>rw[h4]at h3 h2;cases h3;simpa using h2
  |_=>rw[h4]at h3;cases h3
def sortR (l:List (List Int)):List (List Int):=l.foldl putRow []
theorem sortR_go:∀(l m:List (List Int)),Rising m→Rising (l.foldl putRow m)∧∀r,r∈l.foldl putRow m↔r∈m∨r∈l
 |[],m,h=>⟨h,fun r=>by simp⟩
 |a::l,m,h=>by
  have ih:=sortR_go l (putRow m a) (putRow_rising h)
  refine⟨ih.1,fun r=>?_⟩
  rw[List.foldl_cons,ih.2 r,putRow_mem,List.mem_cons]
  grind
theorem sortR_rising (l:List (List Int)):Rising (sortR l):=(sortR_go l [] Rising.nil).1
theorem sortR_mem {l:List (List Int)}{r:List Int}:r∈sortR l↔r∈l:=by rw[sortR,(sortR_go l [] Rising.nil).2 r];simp
theorem sortR_uniq {l m:List (List Int)}(h:Rising m)(hm:∀r,r∈m↔r∈l):m=sortR l:=rising_eq h (sortR_rising l) fun r=>(hm r).trans sortR_mem.symm
section
variable {s : St}
end
end Go.Proofs.YtadbggfpnhkmbaaGreat
namespace Go.Proofs.YtadbggfpnhkmbaaGreat
open Go.RowKit Go.Lib
theorem Sim.know {w0 w w':World}{G:Gh}{s:St}(h:Sim w0 G w s)(hb:Below w.heap.size w w')(b:Nat)(hlt:w.heap.size≤b)(F:Nat→Option Value)(hF:∀i v,F i=some v→w'.cell? ⟨b,i,none⟩=some v) :
  ∃G',G.le G'∧Sim w0 G' w' s∧∀i v,F i=some v→G'.K b i=some v:=by
 have hn:∀i,G.K b i=none:=fun i=>by
  cases hk:G.K b i with
  |none=>rfl
  |some v=>exact absurd (h.K_lt hk) (by omega)
 have hle:G.le ⟨fun b' i=>if b'=b then F i else G.K b' i,G.cap⟩:=⟨fun b' i v hv=>by
  by_cases e:b'=b
  ·subst e;rw[hn i]at hv;cases hv
  ·simp only[if_neg e];exact hv,fun _ _ hc=>hc⟩
 have h1:=h.world hb
 refine⟨_,hle,⟨h1.below,fun b' i v hv=>?_,h1.cap,fun b'=>?_,h.gl,?_⟩,fun i v hv=>by simp only[if_true];exact hv⟩
 ·by_cases e:b'=b
  ·subst e
   simp only[if_true]at hv
   exact hF i v hv
  ·simp only[if_neg e]at hv
   exact h1.K b' i v hv
 ·by_cases e:b'=b
  ·subst e
   have hf:s b'=.free:=by
    by_cases hc:s b'=.free
    ·exact hc
    ·exact absurd (h.lt hc) (by omega)
   rw[hf]
   trivial
  ·exact(h1.ok b').keep rfl hle fun i=>if_neg e
 ·exact h.rows.keep' hle hb.size (fun g hl hg=>⟨hg,hb.block g hl,fun i=>if_neg (by omega)⟩) fun x T xs rs hx=>⟨hx,hb.block x (h.lt (by rw[hx];simp))⟩
end Go.Proofs.YtadbggfpnhkmbaaGreat
set_option maxRecDepth 100000
namespace Go.Proofs.YtadbggfpnhkmbaaGreat
open Go.RowKit
def byteZ (n:Int)(k:Nat):UInt8:=UInt8.ofNat (n.fdiv (2 ^ (8 * k)) % 256).toNat
def eightZ (n:Int)(k:Nat):List UInt8:=(List.range k).map (byteZ n)
theorem eightZ_len (n:Int)(k:Nat):(eightZ n k).length=k:=by simp[eightZ]
theorem byteZ_wrap (n:Int)(k:Nat):IntKind.u8.wrap (n.fdiv (2 ^ (8 * k)))=((byteZ n k).toNat:Int):=by
 have h1:∀z:Int,IntKind.u8.wrap z=z % 256:=fun z=>rfl
 rw[h1]
 have h2:0≤n.fdiv (2 ^ (8 * k)) % 256:=Int.emod_nonneg _ (by decide)
 have h3:n.fdiv (2 ^ (8 * k)) % 256<256:=Int.emod_lt_of_pos _ (by decide)
 unfold byteZ
 generalize n.fdiv (2 ^ (8 * k)) % 256=z at *
 have h4:(UInt8.ofNat z.toNat).toNat=z.toNat:=by
  rw[UInt8.toNat_ofNat']
  omega
 rw[h4]
 omega
end Go.Proofs.YtadbggfpnhkmbaaGreat
