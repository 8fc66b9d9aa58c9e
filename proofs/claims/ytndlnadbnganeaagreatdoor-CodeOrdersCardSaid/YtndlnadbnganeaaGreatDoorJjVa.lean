/- Walks of functions that the claim reaches, and plain facts of them. Conditions: those in the statements. -/
import Derived.Test.YtndlnadbnganeaaGreatDoorJjSqj
import Derived.Test.YtndlnadbnganeaaGreatDoorJjSx
set_option linter.unusedSimpArgs false
set_option linter.unusedVariables false
set_option maxRecDepth 100000
namespace Go.Proofs.YtndlnadbnganeaaGreatDoor
open Go.RowKit
theorem and7 (a:Int):∃x:Nat,x<8∧vint .and .i64 a 7=some (.int .i64 (x:Int)):=by
 have h:=and_low (w:=3) (by omega) a
 have e:IntKind.i64.wrap (((2 ^ 3:Nat):Int) - 1)=7:=by decide
 rw[e]at h
 exact⟨_,addP_lt 3 a,h⟩
theorem szD_pos {x y n:Nat}(hx:x<16)(hy:y<16)(hn:n<3):0<szD x y n∧szD x y n≤16:=by
 match n,hn with
 |0,_=>simp only[szD];omega
 |1,_=>simp only[szD];omega
 |2,_=>simp only[szD];omega
theorem Cthree_at (s:St){a a2:Int}(od:Int){x y:Nat}(ex:vint .and .i64 a 15=some (.int .i64 (x:Int)))(ey:vint .and .i64 a2 15=some (.int .i64 (y:Int))) :
  SCalls Tryz.prog 10 [.agg [.int .i64 a,.int .i64 a2],.int .i64 od] s fun w u=>∃z:BegA,w=.ret (.tup [.ptr z.2.2.2 0,.lst (domsC (dsT x y)) .no,.bool true])∧u=z.1∧ThreeR s x y z:=by
 obtain⟨x',y',_,_,ex',ey',w⟩:=Cthree_S s a a2 od
 have e1:x'=x:=by rw[ex]at ex';injection ex' with e;injection e with _ e;omega
 have e2:y'=y:=by rw[ey]at ey';injection ey' with e;injection e with _ e;omega
 subst e1 e2
 exact w
def gT (t0 t1:Nat)(a b d:Nat):Bool:=decide (d=t0) && decide (a=t1)
def gR (lo hi:Nat)(a b d:Nat):Bool:=decide (lo≤b) && decide (b≤hi)
def gQ (sz:Nat)(a b d:Nat):Bool:=decide (b<sz) && decide (b=a)
def gA (sa sb:Nat)(more:Int)(a b d:Nat):Bool:=decide (((a:Nat):Int)<sa∧0≤((a:Nat):Int)+more∧((a:Nat):Int)+more<sb∧((d:Nat):Int)=((a:Nat):Int)+more)
def pickN (v a b d:Nat):Nat:=match v with
 |0=>a
 |1=>b
 |_=>d
def gI (x y v:Nat)(a b d:Nat):Bool:=decide (0≤pickN v a b d) && decide (pickN v a b d≤szD x y v - 1)
def inG (x y:Nat):Nat→Nat→Nat→Nat→Bool
 |0,_,_,_=>true
 |v+1,a,b,d=>inG x y v a b d && gI x y v a b d
theorem tup_val {o:List (List Nat)}{t0 t1:Nat}(z:Nat→Bool):tupF o [2,0] [t0,t1] z=valF o (gT t0 t1) z:=by simp[tupF,valF,gT]
theorem in_val {o:List (List Nat)}{x y v:Nat}(hv:v<3)(z:Nat→Bool):btwF (o.getD v []) 0 (szD x y v - 1) z=valF o (gI x y v) z:=by
 match v,hv with
 |0,_=>rfl
 |1,_=>rfl
 |2,_=>rfl
def GoodR (G:Nat→Nat→Nat→Bool)(R:List (List Int)):Prop:=Rising R∧∀r,r∈R↔∃a b d:Nat,G a b d=true∧r=[(a:Int),(b:Int),(d:Int)]
theorem GoodR.uniq {G:Nat→Nat→Nat→Bool}{R R':List (List Int)}(h:GoodR G R)(h':GoodR G R'):R=R':=rising_eq h.1 h'.1 fun r=>(h.2 r).trans (h'.2 r).symm
theorem valF_dep {n:Nat}{ds:List (List UInt8×Nat)}{o:List (List Nat)}(g:Nat→Nat→Nat→Bool):DepF (varsOf o [0,1,2]) (valF o g):=fun z w e=>by
 have hd:∀d,d∈[0,1,2]→numA (o.getD d []) z=numA (o.getD d []) w:=fun d hd=>numA_congr fun v hv=>e v (List.mem_flatMap.2 ⟨d,hd,hv⟩)
 unfold valF
 rw[hd 0 (by simp),hd 1 (by simp),hd 2 (by simp)]
theorem sat_len {t:Tr}{vs:List Nat}:(satV t vs).length≤2 ^ vs.length:=by
 unfold satV
 refine Nat.le_trans (List.length_filter_le _ _) ?_
 rw[List.length_range]
 exact Nat.le_refl _
theorem Law.good {s u:St}{K:OB}{q c:Nat}{ns:List Tr}{x y:Nat}{o:List (List Nat)}{N:Nat}(h:Law s u K q c ns x y o N){G:Nat→Nat→Nat→Bool}(hin:∀a b d,G a b d=true→inG x y 3 a b d=true) :
  GoodR G (sortR (tupR (treeT 12 (valF o G)) o [0,1,2]))∧(sortR (tupR (treeT 12 (valF o G)) o [0,1,2])).length≤4096:=by
 have hks3:∀k,k∈[0,1,2]→k<3:=fun k hk=>by simp at hk;omega
 have hks:∀k,k∈[0,1,2]→k<(dsT x y).length:=hks3
 have hnd:[0,1,2].Nodup:=by decide
 refine⟨⟨sortR_rising _,fun r=>?_⟩,?_⟩
 ·rw[sortR_mem,tup_mem h.D hks hnd (valF_dep (n:=12) (ds:=dsT x y) G)]
  simp only[List.map_cons,List.map_nil]
  constructor
  ·rintro⟨z,hz,rfl⟩
   exact⟨_,_,_,hz,rfl⟩
  ·rintro⟨a,b,d,hG,rfl⟩
   have hi:=hin a b d hG
   simp only[inG,gI,pickN,Bool.true_and,Bool.and_eq_true,decide_eq_true_eq]at hi
   have hN:=varsOf_nd h.D hnd hks
   have w0:=(h.wid (d:=0) (by omega)).2.2
   have w1:=(h.wid (d:=1) (by omega)).2.2
   have w2:=(h.wid (d:=2) (by omega)).2.2
   obtain⟨z,hz⟩:=num_ex [(o.getD 0 [],a),(o.getD 1 [],b),(o.getD 2 [],d)] (by simpa [varsOf]using hN) (fun p hp=>by
    simp at hp
    rcases hp with rfl|rfl|rfl
    ·show a<2 ^ (o.getD 0 []).length;omega
    ·show b<2 ^ (o.getD 1 []).length;omega
    ·show d<2 ^ (o.getD 2 []).length;omega)
   have e0:=hz _ (List.mem_cons_self ..)
   have e1:=hz _ (List.mem_cons_of_mem _ (List.mem_cons_self ..))
   have e2:=hz _ (List.mem_cons_of_mem _ (List.mem_cons_of_mem _ (List.mem_cons_self ..)))
   dsimp only at e0 e1 e2
   exact⟨z,by rw[valF,e0,e1,e2];exact hG,by rw[e0,e1,e2]⟩
 ·have e1:=((List.perm_ext_iff_of_nodup (sortR_rising (tupR (treeT 12 (valF o G)) o [0,1,2])).nodup (tupR_nodup _ _ _)).2 fun r=>sortR_mem).length_eq
  rw[e1,tupR,List.length_map]
  have h1:=sat_len (t:=treeT 12 (valF o G)) (vs:=varsOf o [0,1,2])
  have h2:=h.vlen [0,1,2] hks3
  have h3:2 ^ (varsOf o [0,1,2]).length≤2 ^ 12:=Nat.pow_le_pow_right (by omega) h2
  omega
theorem GoodR.ok {G:Nat→Nat→Nat→Bool}{R:List (List Int)}(h:GoodR G R)(hl:R.length≤4096):RowsOk R:=⟨by omega,fun r hr=>by
 obtain⟨a,b,d,_,rfl⟩:=(h.2 r).1 hr
 simp⟩
def gotC (Z:VV)(i:Nat)(R:List (List Int)):List VV:=[if 0<i then .lst (rwsC R) .no else Z,if 1<i then .lst (rwsC R) .no else Z]
end Go.Proofs.YtndlnadbnganeaaGreatDoor
