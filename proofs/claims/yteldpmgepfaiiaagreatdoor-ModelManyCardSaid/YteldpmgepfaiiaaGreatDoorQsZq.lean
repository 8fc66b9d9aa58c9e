/- Walks of functions, and plain facts. Conditions: those in the statements. -/
import Derived.Test.YteldpmgepfaiiaaGreatDoorQsZo
set_option linter.unusedSimpArgs false
set_option linter.unusedVariables false
set_option maxRecDepth 100000
namespace Go.Proofs.YteldpmgepfaiiaaGreatDoor
open Go.RowKit
def mnA (c:UInt8):Atm:=⟨false,[115],[tV c]⟩
def mnT:Rul:=⟨⟨false,[116],[tV 120,tV 121,tV 122]⟩,[mnA 120,mnA 121,mnA 122]⟩
def mn0:Pgm:=⟨[⟨[86],64⟩],[⟨[115],[[86]]⟩,⟨[116],[[86],[86],[86]]⟩],[mnT]⟩
theorem mn0T:nU [100,111,109,32,86,32,54,52,46,32,114,101,108,32,115,40,86,41,46,32,114,101,108,32,116,40,86,44,86,44,86,41,46,32,116,40,120,44,121,44,122,41,58,45,115,40,120,41,44,115,40,121,41,44,115,40,122,41,46]=.ok mn0:=by kernel_rfl
def MT (n:Nat):List (List Int):=(List.range n).map fun i:Nat=>[(i:Int)]
def MU (n:Nat):List (List Int):=(List.range n).flatMap fun a:Nat=>(List.range n).flatMap fun b:Nat=>(List.range n).map fun c:Nat=>[(a:Int),(b:Int),(c:Int)]
def mnG (n:Nat):List Tbl:=[⟨[115],MT n⟩]
def mnP (n:Nat):Pgm:=gvP mn0 (mnG n)
def mnM (n:Nat)(k:List UInt8):List (List Int):=if k=[115] then MT n else if k=[116] then MU n else []
theorem cR {n:Nat}{r:List Int}:r∈MT n↔∃a:Nat,a<n/\r=[(a:Int)]:=by
 unfold MT
 simp only[E_,List.mem_range]
 constructor
 ·rintro⟨a,h,rfl⟩;exact⟨a,h,rfl⟩
 ·rintro⟨a,h,rfl⟩;exact⟨a,h,rfl⟩
theorem M0 {n:Nat}{r:List Int}:r∈MU n↔∃a b c:Nat,a<n/\b<n/\c<n/\r=[(a:Int),(b:Int),(c:Int)]:=by
 unfold MU
 simp only[List.mem_flatMap,E_,List.mem_range]
 constructor
 ·rintro⟨a,ha,b,hb,c,hc,rfl⟩;exact⟨a,b,c,ha,hb,hc,rfl⟩
 ·rintro⟨a,b,c,ha,hb,hc,rfl⟩;exact⟨a,ha,b,hb,c,hc,rfl⟩
theorem M6 {α:Type}(l:List α)(k:Nat):(l.map fun _=>k).sum=l.length*k:=by
 induction l with
 |nil=>simp
 |cons a l ih=>simp only[List.map_cons,List.sum_cons,List.length_cons,ih];rw[Nat.add_mul,Nat.one_mul,Nat.add_comm]
theorem MV {n:Nat}:(MU n).length=n*n*n:=by
 unfold MU
 simp only[List.length_flatMap,a_,List.length_range,M6]
 rw[Nat.mul_assoc]
theorem MX {n:Nat}:Rising (MT n):=by
 unfold MT Rising
 rw[List.pairwise_map]
 refine List.Pairwise.imp ?_ List.pairwise_lt_range
 intro a b h
 simp only[cA]
 rw[if_pos (by omega)]
 decide
theorem MZ {n:Nat}:Rising (MU n):=by
 unfold MU Rising
 rw[List.pairwise_flatMap]
 refine⟨fun a _=>?_,?_⟩
 ·rw[List.pairwise_flatMap]
  refine⟨fun b _=>?_,?_⟩
  ·rw[List.pairwise_map]
   refine List.Pairwise.imp ?_ List.pairwise_lt_range
   intro c d h
   simp[cA]
   omega
  ·refine List.Pairwise.imp ?_ List.pairwise_lt_range
   intro b d h x hx y hy
   obtain⟨c,_,rfl⟩:=E_.1 hx
   obtain⟨e,_,rfl⟩:=E_.1 hy
   simp[cA]
   omega
 ·refine List.Pairwise.imp ?_ List.pairwise_lt_range
  intro a d h x hx y hy
  obtain⟨b,_,hx⟩:=List.mem_flatMap.1 hx
  obtain⟨e,_,hy⟩:=List.mem_flatMap.1 hy
  obtain⟨c,_,rfl⟩:=E_.1 hx
  obtain⟨f,_,rfl⟩:=E_.1 hy
  simp[cA]
  omega
theorem M5 {n:Nat}:∀(l:List Nat) (q:Option (List Int)),(∀i,i∈l->i<64)->l.Pairwise (·<·)->(∀z,q=some z->∃a:Nat,z=[(a:Int)]/\∀i,i∈l->a<i)->dC mn0.doms [[86]] q (l.map fun i:Nat=>[(i:Int)])=true
 |[],q,_,_,_=>rfl
 |i::l,q,h1,h2,h3=>by
  rw[List.pairwise_cons]at h2
  have hi:=h1 i (by simp)
  have hd:da mn0.doms [86]=64:=by decide
  simp only[List.map_cons,dC,fw,hd,Bool.and_eq_true,decide_eq_true_eq,List.length_singleton]
  refine⟨⟨⟨trivial,?_⟩,⟨by omega,by omega⟩,trivial⟩,M5 (n:=n) l _ (fun j hj=>h1 j (by simp[hj])) h2.2 (fun z hz=>?_)⟩
  ·cases q with
   |none=>rfl
   |some z=>
    obtain⟨a,rfl,ha⟩:=h3 z rfl
    have:=ha i (by simp)
    simp[hdB,cA]
    omega
  ·injection hz with hz
   exact⟨i,hz.symm,h2.1⟩
theorem M9 {n:Nat}(hn:n<=32):GvFit mn0 (mnG n):=by
 refine⟨?_,fun t ht=>?_,?_,fun d hd=>?_⟩
 ·have h1:cO mn0.decls [115]=some 0:=by decide
  have h2:mn0.decls[0]?=some ⟨[115],[[86]]⟩:=rfl
  have h3:dC mn0.doms [[86]] none (MT n)=true:=M5 (n:=n) (List.range n) none (fun i hi=>by rw[List.mem_range]at hi;omega) List.pairwise_lt_range (fun z h=>by cases h)
  simp only[mnG,cQ,h1,h2,h3]
  rfl
 ·simp only[mnG,e_]at ht
  subst ht
  simp only
  exact⟨by decide,by decide⟩
 ·simp only[mnG,eO,xB,List.flatMap_cons,List.flatMap_nil,List.append_nil,d_,a_,MT,List.length_range,mn0,List.length_singleton]
  omega
 ·simp only[mn0,e_]at hd
  subst hd
  decide
theorem mn0L:gU 2 [⟨1,0,0⟩,⟨1,0,0⟩,⟨1,0,0⟩] [0,0]:=by
 refine⟨rfl,?_,?_,?_⟩
 ·intro e he
  simp only[F_,List.not_mem_nil,or_false]at he
  rcases he with rfl|rfl|rfl<;>decide
 ·intro f hf i
  match i with
  |0=>exact Nat.zero_le _
  |1=>exact Nat.zero_le _
  |i+2=>show 0<=_;exact Nat.zero_le _
 ·intro i hi
  match i with
  |0=>decide
  |1=>decide
theorem mn0S:soundP mn0=(-1,0,[0,0]):=by
 have h1:cp mn0=0:=by kernel_rfl
 have h2:em mn0 0 mn0.rules=none:=by kernel_rfl
 have h3:eJ mn0=[⟨1,0,0⟩,⟨1,0,0⟩,⟨1,0,0⟩]:=by kernel_rfl
 have h4:stgP mn0=some [0,0]:=by unfold stgP;rw[h3];exact iP mn0L
 unfold soundP
 rw[if_neg (by rw[h1];simp),h2,h4]
theorem mnS {n:Nat}(hn:n<=32):soundP (mnP n)=(-1,0,[0,0]):=(nv (M9 hn)).trans mn0S
theorem Ng {n:Nat}(hn:n<=32)(k:List UInt8):stN (mnP n) k=0:=by
 unfold stN
 rw[mnS hn]
 show gt [0,0] _=0
 generalize ixR (mnP n) k=j
 match j with
 |0=>rfl
 |1=>rfl
 |j+2=>rfl
theorem Nb {n:Nat}{r:Rul}(h:r∈(mnP n).rules):r=mnT\/∃i:Nat,i<n/\r=gS [115] [(i:Int)]:=by
 rcases l_.1 h with h|h
 ·exact .inl (by simpa [mn0]using h)
 ·obtain⟨t,row,ht,hr,rfl⟩:=jA.1 h
  simp only[mnG,e_]at ht
  subst ht
  obtain⟨i,hi,rfl⟩:=cR.1 hr
  exact .inr ⟨i,hi,rfl⟩
theorem Nd {n:Nat}(hn:n<=32):Conc (mnP n) (mnM n):=by
 have hst:Cy (mnP n).rules (stN (mnP n)):=wC (by rw[mnS hn])
 have hclo:=xj (T0:=cP []) (s:=0) hst
 have hcl:=fun r hr g hg=>hclo r hr (Ng hn _) g hg
 have e1:∀i:Nat,i<n->Mdl (mnP n).rules (stN (mnP n)) (cP []) 1 [115] [(i:Int)]:=fun i hi=>hcl (gS [115] [(i:Int)]) (List.mem_append_right _ (jA.2 ⟨⟨[115],MT n⟩,_,by simp[mnG],cR.2 ⟨i,hi,rfl⟩,rfl⟩)) (fun _=>0) (fun a ha=>by cases ha)
 have e2:∀a b c:Nat,a<n->b<n->c<n->Mdl (mnP n).rules (stN (mnP n)) (cP []) 1 [116] [(a:Int),(b:Int),(c:Int)]:=fun a b c ha hb hc=>by
  have:=hcl mnT (List.mem_append_left _ (by simp[mn0])) (fun k=>if k=[120] then(a:Int)else if k=[121] then(b:Int)else(c:Int)) (fun q hq=>by
   simp only[mnT,F_,List.not_mem_nil,or_false]at hq
   rcases hq with rfl|rfl|rfl
   ·exact e1 a ha
   ·exact e1 b hb
   ·exact e1 c hc)
  exact this
 refine⟨by rw[mnS hn],Ng hn,?_,fun k r hr=>?_,by simp[mnP,gvP,mn0],fun k=>?_⟩
 ·intro r hr _ g hg
  rcases Nb hr with rfl|⟨i,hi,rfl⟩
  ·have h1:=hg (mnA 120) (by simp[mnT])
   have h2:=hg (mnA 121) (by simp[mnT])
   have h3:=hg (mnA 122) (by simp[mnT])
   simp only[uo,mnA,Bool.false_eq_true,if_false,ei,List.map_cons,List.map_nil,tV,if_true,mnM]at h1 h2 h3
   obtain⟨a,ha,ha2⟩:=cR.1 h1
   obtain⟨b,hb,hb2⟩:=cR.1 h2
   obtain⟨c,hc,hc2⟩:=cR.1 h3
   simp only[List.cons.injEq,and_true]at ha2 hb2 hc2
   show ei g mnT.head.ts∈mnM n [116]
   rw[show mnM n [116]=MU n from rfl]
   refine M0.2 ⟨a,b,c,ha,hb,hc,?_⟩
   simp only[ei,mnT,List.map_cons,List.map_nil,tV,if_true,ha2,hb2,hc2]
  ·show ei g ([(i:Int)].map jL)∈mnM n [115]
   rw[xu]
   exact cR.2 ⟨i,hi,rfl⟩
 ·unfold mnM at hr
  split at hr
  ·rename_i hk
   subst hk
   obtain⟨a,ha,rfl⟩:=cR.1 hr
   exact e1 a ha
  ·split at hr
   ·rename_i hk
    subst hk
    obtain⟨a,b,c,ha,hb,hc,rfl⟩:=M0.1 hr
    exact e2 a b c ha hb hc
   ·cases hr
 ·unfold mnM
  split
  ·exact MX
  ·split
   ·exact MZ
   ·exact Rising.nil
theorem Nc {n:Nat}(hn:n<=32){L:List Tbl}{e:Int}(h:bQ (mnP n) [] L e) :
  if 16384<n*n*n then L=[]/\e=2 else e=0/\L=[⟨[115],MT n⟩,⟨[116],MU n⟩]:=by
 rcases(Nd hn).eval h with ⟨h1,h2,h3⟩|⟨h1,h2,k,h3⟩
 ·have:=h3 ⟨[116],[[86],[86],[86]]⟩ (by simp[mnP,gvP,mn0])
  rw[show mnM n [116]=MU n from rfl,MV]at this
  rw[if_neg (by omega)]
  exact⟨h1,h2⟩
 ·have:16384<n*n*n:=by
   unfold mnM at h3
   split at h3
   ·simp only[MT,a_,List.length_range]at h3;omega
   ·split at h3
    ·rw[MV]at h3;exact h3
    ·simp at h3
  rw[if_pos this]
  exact⟨h2,h1⟩
theorem Ni {n:Nat}(hn:n<=32):PgmOk (mnP n):=by
 have h0:PgmOk mn0:=H7 (by kernel_rfl)
 refine h0.gv (M9 hn) fun t ht=>?_
 simp only[mnG,e_]at ht
 subst ht
 refine⟨by simp,fun r hr=>?_⟩
 obtain⟨a,_,rfl⟩:=(cR (n:=n)).1 hr
 simp
end Go.Proofs.YteldpmgepfaiiaaGreatDoor
