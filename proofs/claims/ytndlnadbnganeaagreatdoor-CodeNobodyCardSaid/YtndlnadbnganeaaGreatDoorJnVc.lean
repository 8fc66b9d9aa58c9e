/- Walks of functions that the claim reaches, and plain facts of them. Conditions: those in the statements. -/
import Derived.Test.YtndlnadbnganeaaGreatDoorJnRx
import Derived.Laws.AppendOwnNone
set_option linter.unusedSimpArgs false
set_option linter.unusedVariables false
set_option maxRecDepth 100000
namespace Go.Proofs.YtndlnadbnganeaaGreatDoor
open Go.RowKit Go.Lib Go.Shelf
theorem run_append_zero {P:Program}{w:World}(base:Nat)(t ty e:TypeId)(i:TypeInfo)(size:Nat)(ht:P.underlying t=some (.slice e))(hi:P.info? e=some i)(v:Value)(n:Nat)(xs:List Value)(hown:w.ownsRow base e size v n xs)(p:Option Addr)(c:Nat) :
  (Builtin.append_ #[t,t] ty #[v,.slice p 0 c]).run P w=.ok v w:=by
 cases p with
 |none=>
  rcases hown.2 with ⟨rfl,rfl⟩|⟨g,cap,cur,rfl,_,_,hnc,_⟩
  ·simp[Builtin.append_,run_underlying ht,sizeOf,typeInfo,hi,Builtin.lenOf,Builtin.firstCells]
  ·simp[Builtin.append_,run_underlying ht,sizeOf,typeInfo,hi,Builtin.lenOf,Builtin.firstCells,hnc,storeCells]
 |some p=>
  rcases hown.2 with ⟨rfl,rfl⟩|⟨g,cap,cur,rfl,_,_,hnc,_⟩
  ·simp[Builtin.append_,run_underlying ht,sizeOf,typeInfo,hi,Builtin.lenOf,Builtin.firstCells,loadCells,loadCellsFrom]
  ·simp[Builtin.append_,run_underlying ht,sizeOf,typeInfo,hi,Builtin.lenOf,Builtin.firstCells,hnc,storeCells,loadCells,loadCellsFrom]
theorem wpList_append_zero {P:Program}{w:World}{ops:Array Oper}{rest:List Oper}{o:Oper}{a:Act}{Q:Exit→Act→World→Prop}(hgd:o.guard=none)(s x:Operand)(t:TypeId)
  (ho:o.op=.call { callee:=.builtin .append,args:=#[s,x],argTypes:=#[t,t] })
  (base:Nat) (e:TypeId) (i:TypeInfo) (size:Nat) (ht:P.underlying t=some (.slice e)) (hi:P.info? e=some i)
  (v:Value) (n:Nat) (xs:List Value) (hs:a.eval s=v) (hown:w.ownsRow base e size v n xs) (p:Option Addr) (c:Nat) (hx:a.eval x=.slice p 0 c)
  (h:wpList P ops Q rest (a.put o.dst v) w):wpList P ops Q (o::rest) a w:=by
 refine wpList_plain hgd fun K hK=>?_
 have hrun:=run_append_zero (P:=P) (w:=w) base t o.type e i size ht hi v n xs hown p c
 unfold Oper.wp
 simp[execOp,ho,resolve,invoke,builtin,hs,hx,hrun,Result.andThen]
 exact hK _ _ h
set_option maxHeartbeats 4000000 in
theorem clone_zero {P:Program}{ρ:Ren}(L:Go.Proofs.SlLaysE0.n41 P ρ)(i0:TypeInfo)(size:Nat)(hi:P.info? (ρ.t 23)=some i0)(z23:∀w,(Go.sizeOf (ρ.t 23)).run P w=.ok size w)(a:Addr)(c:Nat)(w:World) :
  Calls P (ρ.f 41) #[.slice (some a) 0 c] w fun e w'=>(∃a' c',e=.returned (.slice a' 0 c'))∧Below w.heap.size w w':=by
 have mixed:=L.mixed;have t4:=L.t4;have a4:=L.a4;have z4:=L.z4;have v4:=L.v4;have t22:=L.t22;have a22:=L.a22;have z22:=L.z22;have v22:=L.v22
 have q22:∀(w:World) (a:Option Addr) (n c n' c':Nat),(binOp .eql (ρ.t 22) (.slice a n c) (.slice none n' c')).run P w=.ok (.bool a.isNone) w:=fun w a n c n' c'=>Lib.run_eql_slice_nil w _ _ a n c n' c' L.t22
 have u22:∀w,Sem.run P (underlying (ρ.t 22)) w=.ok (TypeDesc.slice (ρ.t 23)) w:=run_underlying t22
 obtain⟨_,_,FG⟩:=L.f41
 go_enter FG,SlBodyN.n41_ntmps ρ
 go_wp2_with (at_builtin;refine wpList_append_zero rfl _ _ (ρ.t 22) rfl w.heap.size (ρ.t 23) i0 size t22 hi _ _ _ rfl (World.ownsRow_made w #[] 0 (Nat.le_refl _) (Nat.zero_le _) (by simp)) (some a) c rfl ?_)
 go_wp2
 go_ret
 exact⟨⟨_,_,rfl⟩,(Below.refl _ w).alloc (Nat.le_refl _) _⟩
theorem CloneZ_S (s:St)(ow:Own):SRet Tryz.prog 53 [.lst [] ow] s (.lst [] .no) s:=by
 intro w0 G w vs hS hA
 obtain⟨v,rfl,hr⟩:=RL_one hA
 have key:∃(a:Option Addr) (cap:Nat),v=.slice a 0 cap:=by
  generalize hq:VV.lst [] ow=q at hr
  cases hr with
  |emp a cap o ho=>exact⟨a,cap,rfl⟩
  |lst b off len cap sz xs o f hl hc hz h1 hK hR ho=>
   injection hq with hq1 hq2
   subst hq1
   simp at hl
   subst hl
   exact⟨_,_,rfl⟩
  |_=>cases hq
 obtain⟨a,cap,rfl⟩:=key
 have hc:Calls Tryz.prog 53 #[.slice a 0 cap] w fun e w'=>(∃a' c',e=.returned (.slice a' 0 c'))∧Below w.heap.size w w':=by
  cases a with
  |none=>
   refine(AnyE.slices_Clone_nil domE 0 cap w).mono ?_
   rintro e w' ⟨rfl,rfl⟩
   exact⟨⟨_,_,rfl⟩,Below.refl _ _⟩
  |some p=>
   have hi:=dom_info
   cases hi0:Tryz.prog.info? 31 with
   |none=>rw[hi0]at hi;cases hi
   |some i0=>exact clone_zero domE i0 2 hi0 Tryz.sizeOf31 p cap w
 refine hc.mono ?_
 rintro e w' ⟨⟨a',c',rfl⟩,hb⟩
 exact⟨G,s,.ret (.lst [] .no),Gh.le.refl G,hS.world hb,.emp a' c' .no (.inl rfl),rfl,rfl⟩
end Go.Proofs.YtndlnadbnganeaaGreatDoor
