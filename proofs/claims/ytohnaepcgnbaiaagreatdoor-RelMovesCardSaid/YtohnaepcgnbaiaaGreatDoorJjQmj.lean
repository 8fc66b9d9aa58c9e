/- Walks of functions that the claim reaches, and plain facts of them. Conditions: those in the statements. -/
import Derived.Test.YtohnaepcgnbaiaaGreatDoorJjIterj
import Derived.Test.YtohnaepcgnbaiaaGreatDoorJjShelf
import Derived.RangeFuncBox
import Derived.RangeFuncLeaves
import Derived.Shelf.Abstract
import Derived.WalkKit
import Derived.OwnWalkIn
import Derived.TacticsInMore
import Derived.LoopNIn
import Derived.LoopIn
import Derived.Maps.AppendAt
import Derived.Laws.Slices
import Derived.Laws.Strings
import Derived.Lib.Hide
import Derived.Test.YtohnaepcgnbaiaaGreatDoorProg
import Derived.Tactics
import Derived.Tactics2
import Derived.Laws.Pointers
import Derived.RegionTactic
import Derived.RegionCalls
set_option linter.unusedSimpArgs false
set_option linter.unusedVariables false
namespace Go.Proofs.YtohnaepcgnbaiaaGreatDoor
open Go.RowKit Go.Maps Go.Sort Go.Shelf
theorem it_sorts (m:Nat):AnyZI.SortsIn Tryz.prog Tryz.sortedA_ren Fence.wide m:=
 ⟨fun blk off cap ss W hH hblk hsz=>callsIn_wide.2 (Tryz.slices_Sort_int blk off cap ss W hH hblk hsz),fun p cap W=>callsIn_wide.2 (Tryz.slices_Sort_int_none p cap W)⟩
theorem it_keys {H:Type}(b nn Bm:Nat)(D0:DataW H)(R:Value→Option (DataW H×List MemPlace))(w:World)(hown:w.ownsMap Tryz.prog 3 R b nn D0)(hmax:Maps.size D0≤maxLen)(hbytes:Maps.size D0 * 8≤140737488355328)(hlt:Bm<w.heap.size)(hm:w.cell? ⟨Bm,0,none⟩=some (.map (some b))) :
  Calls Tryz.prog 164 #[.func (.func 198) #[] #[.pointer (some ⟨Bm,0,none⟩)]] w fun e w'=>∃(v:Value) (ss:List Int),e=.returned v∧ss.Perm (intKeys D0) ∧
   w'.ownsRow w.heap.size 3 1 v ss.length ((ss.mergeSort (fun x y=>decide (x≤y))).map encZ)∧(v=.slice none 0 0↔ss=[])∧Below w.heap.size w w':=by
 have hseq:SeqGives Fence.wide 2 Tryz.prog 198 #[.pointer (some ⟨Bm,0,none⟩)] encZ (fun ss=>ss.Perm (intKeys D0)) (Maps.size D0) w:=
  AnyZI.keys_gives (ρ:=Tryz.keysA_ren) { Tryz.keysA with } Fence.wide _ trivial rfl (by omega) Bm b nn D0 w hlt hm hown
 exact callsIn_wide.1 (AnyZI.sorted_in Tryz.sortedA Fence.wide 5 trivial trivial trivial trivial rfl (by omega) (it_sorts _) (enters_of Tryz.func82 (by kernel_rfl) rfl) 198 _ trivial (enters_of Tryz.func198 (by kernel_rfl) rfl) _ _ hmax hbytes _ hseq)
end Go.Proofs.YtohnaepcgnbaiaaGreatDoor
set_option maxRecDepth 100000
namespace Go.Proofs.YtohnaepcgnbaiaaGreatDoor
open Go.RowKit Go.Maps Go.Sort Go.Shelf
attribute [local go_sem] Oper.semAt_some
def itUpto (zs:List Int)(k:Nat):List Int:=(List.range k).map fun j=>zs[j]?.getD 0
theorem itUpto_succ (zs:List Int)(k:Nat):itUpto zs (k+1)=itUpto zs k++[zs[k]?.getD 0]:=by simp[itUpto,List.range_succ]
theorem itUpto_length (zs:List Int)(k:Nat):(itUpto zs k).length=k:=by simp[itUpto]
theorem itUpto_all (zs:List Int):itUpto zs zs.length=zs:=by
 apply List.ext_getElem
 ·simp[itUpto]
 ·intro i h1 h2
  simp[itUpto,h2]
set_option maxHeartbeats 2000000 in
theorem it_values1_in (F:Fence)(n:Nat)(h7:F.fn 185)(hro:F.round=none)(hn:1≤n)(l Bs n₀ b off len cap:Nat)(zs:List Int)(hreach:len * 8≤140737488351232)(hb:b<n₀)(J Jx:List Int→World→Prop)
  (hY:∀pre x W,J pre W→pre.length<len→YieldAt F (n - 1) Tryz.prog l #[.int .i64 x] W fun e W'=>
   (e=.returned (.bool true)∧J (pre++[x]) W'∧Below n₀ W W')∨(e=.returned (.bool false)∧Jx (pre++[x]) W'))
  (W:World) (hBs:W.cell? ⟨Bs,0,none⟩=some (.slice (some ⟨b,off,none⟩) len cap)) (hc:∀j,j<len→W.cell? ⟨b,off+j,none⟩=some (.int .i64 (zs[j]?.getD 0))) (h0:J [] W) :
  CallsIn F n Tryz.prog 185 #[.func (.yield l) #[] #[],.pointer (some ⟨Bs,0,none⟩)] W fun e W'=>(∃v,e=.returned v) ∧
   ((∃ys,ys=itUpto zs len∧J ys W')∨(∃pre,(∃k,k≤len∧pre=itUpto zs k)∧Jx pre W')):=by
 refine callsIn_of_wp Tryz.func185 rfl h7 ?_ hro
 simp only[Tryz.ntmps185,List.size_toArray,List.length_cons,List.length_nil,Nat.reduceAdd,Nat.reduceSub,Array.replicate_succ,Array.replicate_zero,List.push_toArray,List.append_toArray,List.nil_append,List.cons_append]
 gi_wp2
 gi_loopw [7] (fun i wr=>∃k:Nat,k≤len∧i=.int .i64 k∧J (itUpto zs k) wr∧Below n₀ W wr)
  (fun i _=>len - (intOf i).toNat)
 case atStart=>exact⟨0,Nat.zero_le _,rfl,h0,Below.refl _ _⟩
 case round=>
  obtain⟨k,hk,rfl,hJs,hnx⟩:=hrel
  have hcx:k<len→wr.cell? ⟨b,off+k,none⟩=some (.int .i64 (zs[k]?.getD 0)):=fun h=>(hnx.cell (p:=⟨b,off+k,none⟩) hb).trans (hc k h)
  by_cases hlt:k<len
  ·obtain⟨fn,tmps,assign,body,hy,hR⟩:=hY _ (zs[k]?.getD 0) wr hJs (by rw[itUpto_length];exact hlt)
   have hcx':=hcx hlt
   gi_wp2
   refine hR.mono ?_
   rintro e W3 (⟨rfl,hJ3,hk3⟩|⟨rfl,hJx3⟩)
   ·
    gi_wp2
    go_roundw
    case rel=>exact⟨k+1,by omega,by simp,by rw[itUpto_succ];exact hJ3,hnx.trans hk3⟩
    case measure=>simp[intOf];omega
   ·gi_wp2
    refine bodyPost_ret (results_none rfl _ _ _) rfl ?_
    exact⟨⟨_,rfl⟩,.inr ⟨_,⟨k+1,by omega,(itUpto_succ _ _).symm⟩,hJx3⟩⟩
  ·obtain rfl:k=len:=by omega
   gi_wp2
   go_end0
   exact⟨⟨_,rfl⟩,.inl ⟨_,rfl,hJs⟩⟩
def ItInts (n₀:Nat)(W:World)(sv:Value)(zs:List Int):Prop:=
 ((∃a cap,sv=.slice a 0 cap)∧zs=[])∨∃b off cap,sv=.slice (some ⟨b,off,none⟩) zs.length cap∧b<n₀∧∀j,j<zs.length→W.cell? ⟨b,off+j,none⟩=some (.int .i64 (zs[j]?.getD 0))
theorem ItInts.below {n₀:Nat}{A B:World}(h:Below n₀ A B){sv:Value}{zs:List Int}:ItInts n₀ A sv zs→ItInts n₀ B sv zs
 |.inl e=>.inl e
 |.inr ⟨b,off,cap,e,hb,hc⟩=>.inr ⟨b,off,cap,e,hb,fun j hj=>(h.cell (p:=⟨b,off+j,none⟩) hb).trans (hc j hj)⟩
set_option maxHeartbeats 1000000 in
theorem it_values1_nil_in (F:Fence)(n:Nat)(h7:F.fn 185)(hro:F.round=none)(l Bs:Nat)(J:List Int→World→Prop)(a:Option Addr)(cap:Nat)(W:World)(hBs:W.cell? ⟨Bs,0,none⟩=some (.slice a 0 cap))(h0:J [] W) :
  CallsIn F n Tryz.prog 185 #[.func (.yield l) #[] #[],.pointer (some ⟨Bs,0,none⟩)] W fun e W'=>(∃v,e=.returned v)∧J [] W':=by
 refine callsIn_of_wp Tryz.func185 rfl h7 ?_ hro
 simp only[Tryz.ntmps185,List.size_toArray,List.length_cons,List.length_nil,Nat.reduceAdd,Nat.reduceSub,Array.replicate_succ,Array.replicate_zero,List.push_toArray,List.append_toArray,List.nil_append,List.cons_append]
 gi_wp2
 gi_loopw [7] (fun i wr=>i=.int .i64 0∧J [] wr) (fun _ _=>0)
 case atStart=>exact⟨rfl,h0⟩
 case round=>
  obtain⟨rfl,hJs⟩:=hrel
  gi_wp2
  go_end0
  exact⟨⟨_,rfl⟩,hJs⟩
theorem it_stops (F:Fence)(n:Nat)(h7:F.fn 185)(hro:F.round=none)(hn:1≤n)(Bs n₀:Nat)(sv:Value)(zs:List Int)(hreach:zs.length * 8≤140737488351232)(w:World)(hBs:Bs<w.heap.size)(hn₀:n₀≤w.heap.size)
  (hc:w.cell? ⟨Bs,0,none⟩=some sv) (hI:ItInts n₀ w sv zs) :
  SeqStopsK F n Tryz.prog 185 #[.pointer (some ⟨Bs,0,none⟩)] (fun x:Int=>#[Value.int .i64 x]) (Below n₀) (fun ys=>ys=zs) (fun _=>True) zs.length w:=fun l J Jx W hW _ _ hY h0=>by
 have hc':=(hW.cell (p:=⟨Bs,0,none⟩) hBs).trans hc
 rcases hI.below (hW.mono hn₀)with ⟨⟨a,cap,rfl⟩,rfl⟩|⟨b,off,cap,rfl,hb,hcs⟩
 ·exact(it_values1_nil_in F n h7 hro l Bs J a cap W hc' h0).mono fun e W' ⟨he,hj⟩=>⟨he,.inl ⟨_,rfl,hj⟩⟩
 ·refine(it_values1_in F n h7 hro hn l Bs n₀ b off zs.length cap zs hreach hb J Jx hY W hc' hcs h0).mono ?_
  rintro e W' ⟨he,⟨ys,rfl,hj⟩|⟨pre,_,hj⟩⟩
  ·exact⟨he,.inl ⟨_,itUpto_all zs,hj⟩⟩
  ·exact⟨he,.inr ⟨_,trivial,hj⟩⟩
theorem it_infoI:(Tryz.prog.info? 3).map (fun i=>(i.zero,i.size,i.bytes))=some (some (.int .i64 0),1,8):=by kernel_rfl
set_option maxHeartbeats 2000000 in
theorem it_append (F:Fence)(n:Nat)(hA:F.fn 197)(hV:F.fn 185)(hro:F.round=none)(hn:3≤n)(Bs:Nat)(sv:Value)(zs:List Int)(hlen:zs.length≤maxLen)(hbytes:zs.length * 8≤140737488351232)(w:World)(hBs:Bs<w.heap.size)(hc:w.cell? ⟨Bs,0,none⟩=some sv)(hL:ItInts w.heap.size w sv zs) :
  CallsIn F n Tryz.prog 197 #[.slice none 0 0,.func (.func 185) #[] #[.pointer (some ⟨Bs,0,none⟩)]] w fun e W'=>∃v,e=.returned v∧W'.ownsRow w.heap.size 3 1 v zs.length (zs.map (Value.int .i64))∧(v=.slice none 0 0↔zs=[])∧Below w.heap.size w W':=by
 have h1:1≤n:=by omega
 obtain⟨i0,hi,hz0,hz1,hz2⟩:=info_parts it_infoI
 refine callsIn_of_wp_marks Tryz.func197 rfl hA ?_ hro
 simp only[Tryz.ntmps197,List.size_toArray,List.length_cons,List.length_nil,Nat.reduceAdd,Nat.reduceSub,Array.replicate_succ,Array.replicate_zero,List.push_toArray,List.append_toArray,List.nil_append,List.cons_append]
 gi_wp2
 have bO:=Boxed.new w 28 (.slice none 0 0)
 have hB0:Below w.heap.size w (w.alloc (.cells #[.slice none 0 0] 28)):=(Below.refl _ w).alloc (Nat.le_refl _) _
 refine wpIn_rangeFunc_ownG hro h1 (gf:=185) (lb:=#[.pointer (some ⟨Bs,0,none⟩)]) rfl hV (enters_of Tryz.func185 (by kernel_rfl) rfl)
  (it_stops F (n - 1) hV hro (by omega) Bs w.heap.size sv zs hbytes _ (by simp;omega) (by simp) ((hB0.cell (p:=⟨Bs,0,none⟩) hBs).trans hc) (hL.below hB0)) belowK_t (belowK_b (by simp)) (Below.refl _ _) (fun _=>rfl)
  (fun pre W=>(∃v,Boxed W w.heap.size 28 v∧W.ownsRow w.heap.size 3 1 v pre.length (pre.map (Value.int .i64))∧(v=.slice none 0 0↔pre=[]))∧Below w.heap.size w W)
  (fun _ _ _=>False)
  (OwnFrom.and (Own.from (holdsRow_own w.heap.size w.heap.size 28 3 1 (fun pre:List Int=>pre.length) (fun pre=>pre.map (Value.int .i64)) (fun pre v=>v=.slice none 0 0↔pre=[])) _) (ownFrom_below (Nat.le_refl _) (by simp)))
  (fun _ _ _ _ _ hs _ _=>hs)
  ⟨⟨_,bO,World.ownsRow_nil _ _ _ _,by simp⟩,hB0⟩
  (fun x=>{ tmps:=#[.slice none 0 0,.func (.func 185) #[] #[.pointer (some ⟨Bs,0,none⟩)],.pointer (some ⟨w.heap.size,0,none⟩),undef,.slice none 0 0,.int .i64 x,.func (.func 185) #[] #[.pointer (some ⟨Bs,0,none⟩)],.int .i64 x,undef,undef,undef,undef,undef],defers:=[] }) ?assign ?body ?done ?stop
 case assign=>
  intro l x W K hK
  gi_wp2
  exact hK
 case body=>
  rintro l pre x W ⟨⟨v,hv,hrow,hnil⟩,hB⟩ hlt
  have hc:=hv.cell
  gi_wp2_with (gi_at_builtin;refine wpListIn_append_own _ rfl _ _ 28 rfl w.heap.size 3 i0 (.int .i64 0) 1 8 Tryz.underlying28 hi hz0 hz1 hz2 rfl (by decide) _ _ _ rfl (hrow.alloc _) ⟨W.heap.size,0,none⟩ 1 1 [.int .i64 x] rfl rfl (cell_one_new _ _ _) (by simp[Value.oneCell']) (by omega) (by omega) (by have:=hB.size;simp;omega) ?_;intro v' w1 hown' hgrow _;obtain⟨g',cap',rfl⟩:=ownsRow_succ hown';obtain⟨hv1,hv2,hr2,hk2,hb2⟩:=hv.appended (by decide) hrow hB.size (Nat.le_refl _) hown' hgrow;have hc1:=hv1.cell;have hf1:=hv1.frozen)
  exact⟨hk2.from _,hb2,⟨_,hv2,by simpa using hr2,by simp⟩,hB.trans hb2⟩
 case done=>
  rintro D ys W hD rfl ⟨⟨v,hv,hrow,hnil⟩,hB⟩ hK
  have hc:=hv.cell
  gi_wp2
  refine⟨by simp,.inl ⟨_,_,rfl,run_takeDeferred hK,?_⟩⟩
  exact⟨_,results_tmp rfl _ _ _,v,rfl,ownsRow_putObj hrow _ hK rfl,hnil,hB.trans (belowK_b (w:=w) (Nat.le_refl _) W D _ _ (by simp at hD;omega) hK rfl rfl)⟩
 case stop=>
  rintro D c pre W _ _ h _
  exact h.elim
set_option maxHeartbeats 1000000 in
theorem it_collect (F:Fence)(n:Nat)(hC:F.fn 184)(hA:F.fn 197)(hV:F.fn 185)(hro:F.round=none)(hn:4≤n)(Bs:Nat)(sv:Value)(zs:List Int)(hlen:zs.length≤maxLen)(hbytes:zs.length * 8≤140737488351232)(w:World)(hBs:Bs<w.heap.size)(hc:w.cell? ⟨Bs,0,none⟩=some sv)(hL:ItInts w.heap.size w sv zs) :
  CallsIn F n Tryz.prog 184 #[.func (.func 185) #[] #[.pointer (some ⟨Bs,0,none⟩)]] w fun e W'=>∃v,e=.returned v∧W'.ownsRow w.heap.size 3 1 v zs.length (zs.map (Value.int .i64))∧(v=.slice none 0 0↔zs=[])∧Below w.heap.size w W':=by
 have h1:1≤n:=by omega
 refine callsIn_of_wp Tryz.func184 rfl hC ?_ hro
 simp only[Tryz.ntmps184,List.size_toArray,List.length_cons,List.length_nil,Nat.reduceAdd,Nat.reduceSub,Array.replicate_succ,Array.replicate_zero,List.push_toArray,List.append_toArray,List.nil_append,List.cons_append]
 gi_wp2_with (gi_at_call 197;refine(it_append F (n - 1) hA hV hro (by omega) Bs sv zs hlen hbytes _ hBs hc hL).mono ?_;rintro e w' ⟨v,rfl,hrow,hnil,hb⟩)
 go_ret
 exact⟨v,rfl,hrow,hnil,hb⟩
set_option maxHeartbeats 2000000 in
theorem it_sortedW (n:Nat)(hn5:5≤n)(Bs:Nat)(sv:Value)(zs:List Int)(hlen:zs.length≤maxLen)(hbytes:zs.length * 8≤140737488351232)(w:World)(hBs:Bs<w.heap.size)(hc:w.cell? ⟨Bs,0,none⟩=some sv)(hL:ItInts w.heap.size w sv zs) :
  CallsIn Fence.wide n Tryz.prog 164 #[.func (.func 185) #[] #[.pointer (some ⟨Bs,0,none⟩)]] w fun e W'=>∃v,e=.returned v∧W'.ownsRow w.heap.size 3 1 v zs.length ((zs.mergeSort (fun x y=>decide (x≤y))).map encZ)∧(v=.slice none 0 0↔zs=[])∧Below w.heap.size w W':=by
 have h1:1≤n:=by omega
 have hro:Fence.wide.round=none:=rfl
 have hF1:Fence.wide.fn 184:=trivial
 have hF2:Fence.wide.fn 82:=trivial
 refine callsIn_of_wp Tryz.func164 rfl trivial ?_ rfl
 simp only[Tryz.ntmps164,List.size_toArray,List.length_cons,List.length_nil,Nat.reduceAdd,Nat.reduceSub,Array.replicate_succ,Array.replicate_zero,List.push_toArray,List.append_toArray,List.nil_append,List.cons_append]
 gi_wp2_with (gi_at_call 184;refine(it_collect Fence.wide (n - 1) trivial trivial trivial rfl (by omega) Bs sv zs hlen hbytes _ hBs hc hL).mono ?_;rintro e W ⟨v,rfl,hrow,hnil,hb⟩)
 rcases hrow.2 with ⟨rfl,hz⟩|⟨gb,cap,cur,rfl,hbase,hgb,r1,r2,r3,r4⟩
 ·have hss:zs=[]:=List.eq_nil_of_length_eq_zero hz
  subst hss
  gi_wp2_with (gi_at_call 82;refine((it_sorts (n - 1)).2 none 0 W).mono ?_;rintro e w' ⟨rfl,rfl⟩)
  go_ret
  exact⟨.slice none 0 0,rfl,by simpa using hrow,by simp,hb⟩
 ·have hH:Holds encZ W gb 0 zs.toArray:=holds_of_block_i hgb (by simpa using r4)
  have hgl:gb<W.heap.size:=(Array.getElem?_eq_some_iff.1 hgb).1
  have cS:=(it_sorts (n - 1)).1 gb 0 cap zs W hH hgl (by omega)
  gi_wp2_with (gi_at_call 82;refine cS.mono ?_;rintro e w' ⟨rfl,nn,os,rfl⟩)
  go_ret
  exact⟨_,rfl,ownsRow_sorted_i (by simp) hbase hgb r1 r2 r3,hnil,hb.grown (grownBy_sorted_i _) hb.size (fun j hj=>by cases hj;exact hbase)⟩
theorem it_sortedV (Bs:Nat)(sv:Value)(zs:List Int)(hlen:zs.length≤maxLen)(hbytes:zs.length * 8≤140737488351232)(w:World)(hBs:Bs<w.heap.size)(hc:w.cell? ⟨Bs,0,none⟩=some sv)(hL:ItInts w.heap.size w sv zs) :
  Calls Tryz.prog 164 #[.func (.func 185) #[] #[.pointer (some ⟨Bs,0,none⟩)]] w fun e W'=>∃v,e=.returned v∧W'.ownsRow w.heap.size 3 1 v zs.length ((zs.mergeSort (fun x y=>decide (x≤y))).map encZ)∧(v=.slice none 0 0↔zs=[])∧Below w.heap.size w W':=
 callsIn_wide.1 (it_sortedW 5 (Nat.le_refl _) Bs sv zs hlen hbytes w hBs hc hL)
end Go.Proofs.YtohnaepcgnbaiaaGreatDoor
namespace Go.Proofs.YtohnaepcgnbaiaaGreatDoor
open Go.RowKit
structure FR (N:Nat) (G:Gh) (tmps:Array Value) (env:Env):Prop where
 size:tmps.size=N
 rel:∀i,R G (tmps.getD i undef) (env i)
theorem FR.mono {N:Nat}{G G':Gh}{tmps:Array Value}{env:Env}(h:FR N G tmps env)(hG:G.le G'):FR N G' tmps env:=
 ⟨h.size,fun i=>(h.rel i).mono hG⟩
theorem FR.eval {N:Nat}{G:Gh}{a:Act}{env:Env}(h:FR N G a.tmps env)(x:Operand):R G (a.eval x) (rd env x):=by
 cases x with
 |tmp t=>exact h.rel t
 |const v=>exact R.cv G v
 |global g=>exact .raw _
 |func f=>exact .fn f #[] [] rfl (fun j v y hv=>by simp at hv)
theorem FR.put {N:Nat}{G:Gh}{a:Act}{env:Env}(h:FR N G a.tmps env)(d:Option Tmp){v:Value}{x:VV}(hv:R G v x) :
  FR N G (a.put d v).tmps (put N env d x):=by
 cases d with
 |none=>exact h
 |some t=>
  refine⟨by simp[Act.put,h.size],fun i=>?_⟩
  simp only[Act.put,Go.Proofs.YtohnaepcgnbaiaaGreatDoor.put]
  by_cases ht:t<N
  ·rw[if_pos ht]
   unfold upd
   by_cases hi:i=t
   ·subst hi
    rw[if_pos rfl]
    have:(a.tmps.setIfInBounds i v).getD i undef=v:=by
     have:=h.size
     simp[Array.getD,this,ht]
    rw[this];exact hv
   ·rw[if_neg hi]
    have:(a.tmps.setIfInBounds t v).getD i undef=a.tmps.getD i undef:=by
     simp[Array.getD_eq_getD_getElem?,Array.getElem?_setIfInBounds_ne (Ne.symm hi)]
    rw[this];exact h.rel i
  ·rw[if_neg ht]
   have:a.tmps.setIfInBounds t v=a.tmps:=by
    have:=h.size
    simp[Array.setIfInBounds,this,ht]
   rw[this];exact h.rel i
section
variable {P : Program} {N : Nat} {w0 w w' : World} {G G' : Gh} {s s' : St} {a : Act} {env : Env} {D : List Deferred} {k : Env → St → Prop} {E : VV → Env → St → Prop} {o : Oper}
def Nx (N:Nat)(w0:World)(G:Gh)(D:List Deferred)(k:Env→St→Prop):Act→World→Prop:=fun a w=>
 ∃(G':Gh) (env:Env) (s:St),G.le G'∧FR N G' a.tmps env∧a.defers=D∧Sim w0 G' w s∧k env s
def Px (N:Nat)(w0:World)(G:Gh)(D:List Deferred)(E:VV→Env→St→Prop):Exit→Act→World→Prop:=fun e a w=>
 ∃(G':Gh) (env:Env) (s:St) (v:Value) (x:VV),e=.panic [{ v:=v,recovered:=false }]∧R G' v x∧G.le G'∧FR N G' a.tmps env∧a.defers=D∧Sim w0 G' w s∧E x env s
theorem put_defers (a:Act)(d:Option Tmp)(v:Value):(a.put d v).defers=a.defers:=by cases d<;>rfl
theorem wp_value {v:Value}{x:VV}(hf:FR N G a.tmps env)(hD:a.defers=D)(hrun:(execOp a.eval o).run P w=.ok (.value v) w')
  (hG:G.le G') (hR:R G' v x) (hS:Sim w0 G' w' s') (hk:k (put N env o.dst x) s'):o.wp P a w (Nx N w0 G D k) (Px N w0 G D E):=by
 unfold Oper.wp
 rw[hrun]
 exact⟨G',_,s',hG,(hf.mono hG).put o.dst hR,(put_defers _ _ _).trans hD,hS,hk⟩
theorem wp_skip' (hf:FR N G a.tmps env)(hD:a.defers=D)(hrun:(execOp a.eval o).run P w=.ok .skip w')
  (hG:G.le G') (hS:Sim w0 G' w' s') (hk:k (put N env o.dst (.tup [])) s'):o.wp P a w (Nx N w0 G D k) (Px N w0 G D E):=by
 unfold Oper.wp
 rw[hrun]
 exact⟨G',_,s',hG,(hf.mono hG).put o.dst (.tup _ _ rfl (fun j v y hv=>by simp at hv)),(put_defers _ _ _).trans hD,hS,hk⟩
theorem exec_v {S:Sem Value}{v:Value}(h:S.run P w=.ok v w'):(do pure (Next.value (← S)):Sem Next).run P w=.ok (.value v) w':=by
 simp[h]
theorem qi_spec (T:TypeId)(h:(qi P T).sz≠0∨(qi P T).k≠.other∨(qi P T).zok=true) :
  ∃d i,P.underlying T=some d∧P.info? T=some i∧(qi P T).k=qkOf d∧(qi P T).sz=i.size∧(qi P T).bt=i.bytes:=by
 unfold qi at h ⊢
 cases hd:P.underlying T with
 |none=>simp[hd]at h
 |some d=>
  cases hi:P.info? T with
  |none=>simp[hd,hi]at h
  |some i=>exact⟨d,i,rfl,rfl,by cases hz:i.zero<;>simp[hz],by cases hz:i.zero<;>simp[hz],by cases hz:i.zero<;>simp[hz]⟩
theorem qi_zero (T:TypeId)(h:(qi P T).zok=true) :
  ∃d i z,P.underlying T=some d∧P.info? T=some i∧(qi P T).k=qkOf d∧(qi P T).sz=i.size∧(qi P T).bt=i.bytes∧i.zero=some z∧z.cells.size=i.size∧0<i.size ∧
   (∀v,v∈z.cells→v.oneCell'=true)∧((qkOf d).agg=!z.oneCell'∧notTup z=true)∧(qi P T).z=z.cells.toList.map cv:=by
 obtain⟨d,i,hd,hi,h1,h2,h3⟩:=qi_spec (P:=P) T (.inr (.inr h))
 unfold qi at h h1 h2 h3 ⊢
 simp only[hd,hi]at h h1 h2 h3 ⊢
 cases hz:i.zero with
 |none=>simp[hz]at h
 |some z=>
  simp only[hz]at h ⊢
  simp only[Bool.and_eq_true,beq_iff_eq,Array.all_eq_true,decide_eq_true_eq]at h
  obtain⟨⟨⟨⟨h1,h2⟩,h3⟩,h4⟩,h5⟩:=h
  refine⟨d,i,z,rfl,rfl,rfl,rfl,rfl,hz,h1,h4,fun v hv=>?_,⟨h3,h5⟩,rfl⟩
  obtain⟨j,hj,rfl⟩:=Array.mem_iff_getElem.1 hv
  exact h2 j hj
theorem run_isAgg {T:TypeId}{d:TypeDesc}(h:P.underlying T=some d):(isAgg T).run P w=.ok (qkOf d).agg w:=by
 unfold isAgg
 simp only[Sem.run_bind,run_underlying h,Result.andThen_ok]
 cases d<;>rfl
theorem run_sizeOf {T:TypeId}{i:TypeInfo}(h:P.info? T=some i):(sizeOf T).run P w=.ok i.size w:=by
 simp[sizeOf,typeInfo,h]
def Lies (G:Gh)(w:World)(b off:Nat)(cs:List VV):Prop:=
 ∀(j:Nat) (y:VV),cs[j]?=some y→y.one=true∧∃v,w.cell? ⟨b,off+j,none⟩=some v∧R G v y
theorem add_none (b off j:Nat):(⟨b,off,none⟩:Addr).add j=⟨b,off+j,none⟩:=by
 unfold Addr.add
 by_cases h:j=0<;>simp[h]
theorem run_part {T:TypeId}{b off:Nat}{cs:List VV}{x:VV}{o:Nat}(hL:Lies G w b off cs)(h:partOf cs o (qi P T).sz (qi P T).k.agg=some x) :
  ∃v,(loadVar T ⟨b,off+o,none⟩).run P w=.ok v w∧R G v x:=by
 unfold partOf at h
 split at h
 ·rename_i hle
  split at h
  ·rename_i hag
   obtain⟨d,i,hd,hi,hk,hs,_⟩:=qi_spec (P:=P) T (.inr (.inl (by intro e;rw[e]at hag;cases hag)))
   injection h with h
   subst h
   rw[hs]at hle ⊢
   have hcells:∀j,j<i.size→∃v,w.cell? ⟨b,off+o+j,none⟩=some v∧∀y,cs[o+j]?=some y→R G v y:=by
    intro j hj
    have hlt:o+j<cs.length:=by omega
    obtain⟨_,v,hv,hr⟩:=hL (o+j) cs[o+j] (List.getElem?_eq_getElem hlt)
    refine⟨v,by rw[← Nat.add_assoc]at hv;exact hv,fun y hy=>?_⟩
    rw[List.getElem?_eq_getElem hlt]at hy
    injection hy with hy
    exact hy ▸ hr
   let f:Nat→Value:=fun j=>(w.cell? ⟨b,off+o+j,none⟩).getD default
   have hf:∀j,j<i.size→w.cell? ((⟨b,off+o,none⟩:Addr).add j)=some (f j):=by
    intro j hj
    rw[add_none]
    obtain⟨v,hv,_⟩:=hcells j hj
    simp[f,hv]
   have hload:=run_loadCells (P:=P) (w:=w) ⟨b,off+o,none⟩ i.size f hf
   refine⟨.agg (Array.ofFn (n:=i.size) fun j=>f j),?_,?_⟩
   ·unfold loadVar
    rw[hk]at hag
    simp only[Sem.run_bind,run_isAgg hd,Result.andThen_ok,hag,if_true,run_sizeOf hi,Sem.run_pure]
    rw[hload]
    simp only[Result.andThen_ok,Result.ok.injEq,and_true,Value.agg.injEq]
    apply Array.ext_getElem?
    intro j
    simp[Array.getElem?_ofFn]
    by_cases hj:j<i.size<;>simp[hj]
   ·refine .agg _ _ (by simp;omega) (fun y hy=>?_) (fun j v y hv hy=>?_)
    ·obtain⟨j,hj⟩:=List.mem_iff_getElem?.1 hy
     rw[List.getElem?_take]at hj
     split at hj
     ·rw[List.getElem?_drop]at hj
      exact(hL _ _ hj).1
     ·cases hj
    ·rw[List.getElem?_take]at hy
     split at hy
     ·rename_i hj
      rw[List.getElem?_drop]at hy
      obtain⟨u,hu,hr⟩:=hcells j hj
      simp only[Array.getElem?_ofFn,hj,dite_true,Option.some.injEq]at hv
      subst hv
      have:f j=u:=by simp[f,hu]
      rw[this];exact hr y hy
     ·cases hy
  ·rename_i hag
   split at h
   ·rename_i h1
    obtain⟨d,i,hd,hi,hk,hs,_⟩:=qi_spec (P:=P) T (.inl (by omega))
    obtain⟨_,v,hv,hr⟩:=hL o x h
    refine⟨v,?_,hr⟩
    unfold loadVar
    rw[hk]at hag
    simp only[Sem.run_bind,run_isAgg hd,Result.andThen_ok,hag,Bool.false_eq_true,if_false,run_load,hv]
   ·cases h
 ·cases h
theorem Lies.of_eptr (hS:Sim w0 G w s){v:Value}{cs:List VV}(h:R G v (.eptr cs)):∃b off,v=.pointer (some ⟨b,off,none⟩)∧Lies G w b off cs:=by
 cases h with
 |eptr b off cs f h1 hK hR=>
  refine⟨b,off,rfl,fun j y hy=>⟨h1 y (List.mem_iff_getElem?.2 ⟨j,hy⟩),f j,hS.K _ _ _ (hK j ?_),hR j y hy⟩⟩
  exact(List.getElem?_eq_some_iff.1 hy).1
theorem Lies.of_obj (hS:Sim w0 G w s){b:Nat}{T:TypeId}{xs:List VV}(h:s b=.obj T xs):Lies G w b 0 xs:=by
 have ho:=hS.ok b
 rw[h]at ho
 obtain⟨_,_,c,e,_,hx⟩:=ho
 intro j y hy
 obtain⟨h1,v,hv,hr⟩:=hx j y hy
 exact⟨h1,v,by rw[Nat.zero_add,cell_of_row w b j c T (0,0) e];exact hv,hr⟩
theorem Lies.of_pk (hS:Sim w0 G w s){b:Nat}{T:TypeId}{xs:List VV}{rs:List (Nat×TypeId×Nat)}(h:s b=.pk T xs rs):Lies G w b 0 xs:=by
 have ho:=hS.ok b
 rw[h]at ho
 obtain⟨_,_,c,e,_,hx⟩:=ho
 intro j y hy
 obtain⟨h1,v,hv,hr⟩:=hx j y hy
 exact⟨h1,v,by rw[Nat.zero_add,cell_of_row w b j c T (0,0) e];exact hv,hr⟩
theorem Lies.of_rowC (hS:Sim w0 G w s){b:Nat}{T:TypeId}{sz:Nat}{xs:List VV}(h:s b=.row T sz xs):Lies G w b 0 xs:=by
 have ho:=hS.ok b
 rw[h]at ho
 obtain⟨_,_,c,cap,e,_,_,_,_,hx⟩:=ho
 intro j y hy
 obtain⟨h1,v,hv,hr⟩:=hx j y hy
 exact⟨h1,v,by rw[Nat.zero_add,cell_of_row w b j c T (0,0) e];exact hv,hr⟩
theorem run_vload {T:TypeId}{p:Value}{a x:VV}(hS:Sim w0 G w s)(hp:R G p a)(h:vload (qi P T) a s=some x) :
  ∃v,(Instr.loadAt T p).run P w=.ok v w∧R G v x:=by
 cases a with
 |eptr cs=>
  obtain⟨b,off,rfl,hL⟩:=Lies.of_eptr hS hp
  obtain⟨v,hv,hr⟩:=run_part (P:=P) (T:=T) (o:=0) hL h
  exact⟨v,by simpa [Instr.loadAt,Instr.sureAddr]using hv,hr⟩
 |ptr b off=>
  cases hp
  simp only[vload]at h
  split at h
  ·rename_i T' xs hb
   obtain⟨v,hv,hr⟩:=run_part (P:=P) (T:=T) (o:=off) (Lies.of_obj hS hb) h
   exact⟨v,by simpa [Instr.loadAt,Instr.sureAddr]using hv,hr⟩
  ·rename_i T' xs rs hb
   obtain⟨v,hv,hr⟩:=run_part (P:=P) (T:=T) (o:=off) (Lies.of_pk hS hb) h
   exact⟨v,by simpa [Instr.loadAt,Instr.sureAddr]using hv,hr⟩
  ·rename_i T' sz xs hb
   obtain⟨v,hv,hr⟩:=run_part (P:=P) (T:=T) (o:=off) (Lies.of_rowC hS hb) h
   exact⟨v,by simpa [Instr.loadAt,Instr.sureAddr]using hv,hr⟩
  ·cases h
 |_=>simp[vload]at h
theorem splice_get {α:Type}(cs xs:List α)(off i:Nat)(h:off+xs.length≤cs.length) :
  (splice cs off xs)[i]?=if off≤i∧i<off+xs.length then xs[i - off]? else cs[i]?:=by
 unfold splice
 have h1:(cs.take off).length=off:=by rw[List.length_take];omega
 rcases Nat.lt_or_ge i off with hlt|hge
 ·rw[if_neg (by omega),List.getElem?_append_left (by rw[List.length_append,h1];omega),List.getElem?_append_left (by omega),List.getElem?_take,if_pos hlt]
 ·rcases Nat.lt_or_ge i (off+xs.length)with hlt|hge'
  ·rw[if_pos ⟨hge,hlt⟩,List.getElem?_append_left (by rw[List.length_append,h1];omega),List.getElem?_append_right (by omega),h1]
  ·rw[if_neg (by omega),List.getElem?_append_right (by rw[List.length_append,h1];omega),List.length_append,h1,List.getElem?_drop]
   congr 1;omega
theorem splice_length {α:Type}(cs xs:List α)(off:Nat)(h:off+xs.length≤cs.length):(splice cs off xs).length=cs.length:=by
 unfold splice
 simp only[List.length_append,List.length_take,List.length_drop]
 omega
theorem cells_spec {v:Value}{x:VV}(h:R G v x)(h1:x.cells.all VV.one=true) :
  v.cells.size=x.cells.length∧(∀u,u∈v.cells→u.oneCell'=true)∧∀(j:Nat) (u:Value) (y:VV),v.cells[j]?=some u→x.cells[j]?=some y→R G u y:=by
 have key:∀(vs:Array Value) (xs:List VV),vs.size=xs.length→xs.all VV.one=true→(∀(j:Nat) (v:Value) (y:VV),vs[j]?=some v→xs[j]?=some y→R G v y) →
   ∀u,u∈vs→u.oneCell'=true:=by
  intro vs xs hs ha hR u hu
  obtain⟨j,hj,rfl⟩:=Array.mem_iff_getElem.1 hu
  have hlt:j<xs.length:=by omega
  rw[(hR j vs[j] xs[j] (Array.getElem?_eq_getElem hj) (List.getElem?_eq_getElem hlt)).one]
  exact List.all_eq_true.1 ha _ (List.getElem_mem hlt)
 cases x with
 |agg cs=>
  cases h with
  |agg vs xs hs _ hR=>exact⟨hs,key vs cs hs h1 hR,hR⟩
 |tup xs=>simp[VV.cells,VV.one]at h1
 |_=>
  have ho:=h.one
  rw[show VV.one _=true by simpa [VV.cells]using h1]at ho
  have hc:v.cells=#[v]:=by cases v<;>first|rfl|(simp[Value.oneCell']at ho)
  refine⟨by simp[hc,VV.cells],by simp[hc,ho],fun j u y hu hy=>?_⟩
  rw[hc]at hu
  cases j with
  |zero=>simp[VV.cells]at hu hy;subst hu;subst hy;exact h
  |succ j=>simp at hu
theorem run_vstore {T:TypeId}{p v:Value}{a x:VV}{s':St}(hS:Sim w0 G w s)(hp:R G p a)(hv:R G v x)(h:vstore (qi P T) a x s=some s') :
  ∃w',(Instr.storeAt T p v).run P w=.ok () w'∧Sim w0 G w' s':=by
 cases a with
 |ptr b off=>
  cases hp
  simp only[vstore]at h
  split at h
  ·rename_i T' xs hb
   split at h
   ·rename_i hc
    obtain⟨hlen,hpos,hle,hone⟩:=hc
    injection h with h
    subst h
    obtain⟨hsz,hcell,hrel⟩:=cells_spec hv hone
    have ho:=hS.ok b
    rw[hb]at ho
    obtain⟨hB,hn,c,e,hcs,hx⟩:=ho
    obtain⟨d,i,hd,hi,hk,hs,_⟩:=qi_spec (P:=P) T (.inl (by omega))
    have hst:=run_storeCells_at P b off T' v.cells.toList 0 c w e (by simp;omega) (fun u hu=>hcell u (by simpa using hu))
    have hw:off+x.cells.length≤xs.length:=by omega
    have hwc:off+v.cells.toList.length≤c.toList.length:=by simp;omega
    refine⟨_,?_,hS.set_obj hb (w.setRow b (splice c.toList off v.cells.toList).toArray) (splice c.toList off v.cells.toList).toArray
     ⟨rfl,rfl,rfl,by simp,fun k hk=>setRow_other w b k _ (by omega)⟩ (by simp) (setRow_heap w b c _ T' _ e) (fun k hk=>setRow_other w b k _ hk)
     (by rw[List.size_toArray,splice_length _ _ _ hwc,splice_length _ _ _ hw];simpa using hcs) (fun j y hy=>?_)⟩
    ·unfold Instr.storeAt storeVar
     simp only[Instr.sureAddr,Sem.run_bind,Sem.run_pure,Result.andThen_ok,run_sizeOf hi,Sem.run_ite]
     rw[if_neg (by rw[hsz,hlen,hs];simp)]
     simp only[Nat.add_zero]at hst
     simpa [splice]using hst
    ·rw[splice_get _ _ _ _ hw]at hy
     rw[List.getElem?_toArray,splice_get _ _ _ _ hwc]
     have hll:v.cells.toList.length=x.cells.length:=by simpa using hsz
     rw[hll]
     split at hy
     ·rename_i hin
      rw[if_pos hin]
      have hlt:j - off<v.cells.size:=by omega
      refine⟨List.all_eq_true.1 hone y (List.mem_iff_getElem?.2 ⟨_,hy⟩),v.cells[j - off],by simp[hlt],hrel _ _ y (Array.getElem?_eq_getElem hlt) hy⟩
     ·rename_i hin
      rw[if_neg hin]
      obtain⟨h1,u,hu,hr⟩:=hx j y hy
      exact⟨h1,u,by simpa using hu,hr⟩
   ·cases h
  ·rename_i T' xs rs hb
   split at h
   ·rename_i hc
    obtain⟨hlen,hpos,hle,hone⟩:=hc
    injection h with h
    subst h
    obtain⟨hsz,hcell,hrel⟩:=cells_spec hv hone
    have ho:=hS.ok b
    rw[hb]at ho
    obtain⟨hB,hn,c,e,hcs,hx⟩:=ho
    obtain⟨d,i,hd,hi,hk,hs,_⟩:=qi_spec (P:=P) T (.inl (by omega))
    have hst:=run_storeCells_at P b off T' v.cells.toList 0 c w e (by simp;omega) (fun u hu=>hcell u (by simpa using hu))
    have hw:off+x.cells.length≤xs.length:=by omega
    have hwc:off+v.cells.toList.length≤c.toList.length:=by simp;omega
    refine⟨_,?_,hS.set_pk hb (w.setRow b (splice c.toList off v.cells.toList).toArray) c (splice c.toList off v.cells.toList).toArray e
     ⟨rfl,rfl,rfl,by simp,fun k hk=>setRow_other w b k _ (by omega)⟩ (by simp) (setRow_heap w b c _ T' _ e) (fun k hk=>setRow_other w b k _ hk)
     (by rw[List.size_toArray,splice_length _ _ _ hwc,splice_length _ _ _ hw];simpa using hcs) (fun j y hy=>?_) (fun r hr=>?_)⟩
    ·unfold Instr.storeAt storeVar
     simp only[Instr.sureAddr,Sem.run_bind,Sem.run_pure,Result.andThen_ok,run_sizeOf hi,Sem.run_ite]
     rw[if_neg (by rw[hsz,hlen,hs];simp)]
     simp only[Nat.add_zero]at hst
     simpa [splice]using hst
    ·rw[splice_get _ _ _ _ hw]at hy
     rw[List.getElem?_toArray,splice_get _ _ _ _ hwc]
     have hll:v.cells.toList.length=x.cells.length:=by simpa using hsz
     rw[hll]
     split at hy
     ·rename_i hin
      rw[if_pos hin]
      have hlt:j - off<v.cells.size:=by omega
      refine⟨List.all_eq_true.1 hone y (List.mem_iff_getElem?.2 ⟨_,hy⟩),v.cells[j - off],by simp[hlt],hrel _ _ y (Array.getElem?_eq_getElem hlt) hy⟩
     ·rename_i hin
      rw[if_neg hin]
      obtain⟨h1,u,hu,hr⟩:=hx j y hy
      exact⟨h1,u,by simpa using hu,hr⟩
    ·simp only[keepR,List.mem_filter,Bool.or_eq_true,decide_eq_true_eq]at hr
     refine⟨hr.1,?_,?_⟩
     ·rw[splice_get _ _ _ _ hw,if_neg (by omega)]
     ·rw[List.getElem?_toArray,splice_get _ _ _ _ hwc,if_neg (by simp only[Array.length_toList];omega)];simp
   ·cases h
  ·rename_i T' sz xs hb
   split at h
   ·rename_i hc
    obtain⟨hlen,hpos,hle,hone⟩:=hc
    injection h with h
    subst h
    obtain⟨hsz,hcell,hrel⟩:=cells_spec hv hone
    have ho:=hS.ok b
    rw[hb]at ho
    obtain⟨hB,hn,c,cap,e,hq,hcs,hcl,hm,hx⟩:=ho
    obtain⟨d,i,hd,hi,hk,hs,_⟩:=qi_spec (P:=P) T (.inl (by omega))
    have hst:=run_storeCells_at P b off T' v.cells.toList 0 c w e (by simp;omega) (fun u hu=>hcell u (by simpa using hu))
    have hw:off+x.cells.length≤xs.length:=by omega
    have hwc:off+v.cells.toList.length≤c.toList.length:=by simp;omega
    refine⟨_,?_,hS.set_row hb (w.setRow b (splice c.toList off v.cells.toList).toArray) c (splice c.toList off v.cells.toList).toArray e
     ⟨rfl,rfl,rfl,by simp,fun k hk=>setRow_other w b k _ (by omega)⟩ (by simp) (setRow_heap w b c _ T' _ e) (fun k hk=>setRow_other w b k _ hk)
     (by rw[List.size_toArray,splice_length _ _ _ hwc];simp) (by rw[splice_length _ _ _ hw,hcs];exact hcl) (fun j y hy=>?_)⟩
    ·unfold Instr.storeAt storeVar
     simp only[Instr.sureAddr,Sem.run_bind,Sem.run_pure,Result.andThen_ok,run_sizeOf hi,Sem.run_ite]
     rw[if_neg (by rw[hsz,hlen,hs];simp)]
     simp only[Nat.add_zero]at hst
     simpa [splice]using hst
    ·rw[splice_get _ _ _ _ hw]at hy
     rw[List.getElem?_toArray,splice_get _ _ _ _ hwc]
     have hll:v.cells.toList.length=x.cells.length:=by simpa using hsz
     rw[hll]
     split at hy
     ·rename_i hin
      rw[if_pos hin]
      have hlt:j - off<v.cells.size:=by omega
      refine⟨List.all_eq_true.1 hone y (List.mem_iff_getElem?.2 ⟨_,hy⟩),v.cells[j - off],by simp[hlt],hrel _ _ y (Array.getElem?_eq_getElem hlt) hy⟩
     ·rename_i hin
      rw[if_neg hin]
      obtain⟨h1,u,hu,hr⟩:=hx j y hy
      exact⟨h1,u,by simpa using hu,hr⟩
   ·cases h
  ·cases h
 |_=>simp[vstore]at h
end
section
variable {P : Program} {N : Nat} {w0 w w' : World} {G G' : Gh} {s s' : St}
theorem foldl_splice (vs:List Value):∀(off:Nat) (cs:Array Value) (n:Nat),off+n+vs.length≤cs.size →
  ((vs.zipIdx n).foldl (fun cs (c,j)=>cs.setIfInBounds (off+j) c) cs).toList=splice cs.toList (off+n) vs:=by
 induction vs with
 |nil=>intro off cs n h;simp[splice]
 |cons v vs ih=>
  intro off cs n h
  simp only[List.length_cons]at h
  rw[List.zipIdx_cons,List.foldl_cons,ih off _ (n+1) (by simp;omega)]
  apply List.ext_getElem?
  intro i
  rw[splice_get _ _ _ _ (by simp;omega),splice_get _ _ _ _ (by simp;omega)]
  simp only[Array.toList_setIfInBounds,List.length_cons]
  by_cases h1:i=off+n
  ·subst h1
   rw[if_neg (by omega),if_pos (by omega)]
   have:off+n<cs.size:=by omega
   simp[this]
  ·by_cases h2:off+(n+1)≤i∧i<off+(n+1)+vs.length
   ·rw[if_pos h2,if_pos (by omega)]
    have:i - (off+n)=(i - (off+(n+1)))+1:=by omega
    rw[this];simp
   ·rw[if_neg h2,if_neg (by omega),List.getElem?_set_ne (by omega)]
def RLs (G:Gh)(vs:Array Value)(xs:List VV):Prop:=
 vs.size=xs.length∧(∀y,y∈xs→y.one=true)∧∀(j:Nat) (v:Value) (y:VV),vs[j]?=some v→xs[j]?=some y→R G v y
theorem RLs.splice {vs us:Array Value}{xs ys:List VV}{off:Nat}(h:RLs G vs xs)(h':RLs G us ys)(hle:off+ys.length≤xs.length) :
  RLs G (splice vs.toList off us.toList).toArray (splice xs off ys):=by
 have hv:vs.toList.length=xs.length:=by simpa using h.1
 have hu:us.toList.length=ys.length:=by simpa using h'.1
 refine⟨by rw[List.size_toArray,splice_length _ _ _ (by omega),splice_length _ _ _ hle,hv],fun y hy=>?_,fun j v y hvj hyj=>?_⟩
 ·obtain⟨j,hj⟩:=List.mem_iff_getElem?.1 hy
  rw[splice_get _ _ _ _ hle]at hj
  split at hj
  ·exact h'.2.1 y (List.mem_iff_getElem?.2 ⟨_,hj⟩)
  ·exact h.2.1 y (List.mem_iff_getElem?.2 ⟨_,hj⟩)
 ·rw[List.getElem?_toArray,splice_get _ _ _ _ (by omega),hu]at hvj
  rw[splice_get _ _ _ _ hle]at hyj
  split at hyj
  ·rename_i hin
   rw[if_pos hin]at hvj
   exact h'.2.2 _ v y (by simpa using hvj) hyj
  ·rename_i hin
   rw[if_neg hin]at hvj
   exact h.2.2 _ v y (by simpa using hvj) hyj
theorem RLs.of_cells {v:Value}{x:VV}(h:R G v x)(h1:x.cells.all VV.one=true):RLs G v.cells x.cells:=
 ⟨(cells_spec h h1).1,fun y hy=>List.all_eq_true.1 h1 y hy,(cells_spec h h1).2.2⟩
theorem RLs.zero {T:TypeId}(h:(qi P T).zok=true):∃z i d,P.info? T=some i∧P.underlying T=some d∧(qi P T).k=qkOf d∧(qi P T).sz=i.size∧i.zero=some z∧0<i.size∧z.cells.size=i.size ∧
  ((qkOf d).agg=!z.oneCell'∧notTup z=true)∧RLs G z.cells (qi P T).z:=by
 obtain⟨d,i,z,hd,hi,hk,hs,_,hz,hzs,hpos,hone,hag,hzz⟩:=qi_zero (P:=P) T h
 refine⟨z,i,d,hi,hd,hk,hs,hz,hpos,hzs,hag,by rw[hzz];simp,fun y hy=>?_,fun j v y hv hy=>?_⟩
 ·rw[hzz]at hy
  obtain⟨u,hu,rfl⟩:=List.mem_map.1 hy
  rw[← (R.cv G u).one]
  exact hone u (by simpa using hu)
 ·rw[hzz]at hy
  have:z.cells.toList[j]?=some v:=by simpa using hv
  rw[List.getElem?_map,this]at hy
  simp at hy
  exact hy ▸ R.cv G v
theorem run_fill {T:TypeId}(place:Nat→Option (Nat×Nat))(hpl:∀(j off sz:Nat),qp P T j=some (off,sz)→place j=some (off,sz)) :
  ∀(parts:List (Nat×VV)) (vps:List (Nat×Value)) (cs:List VV) (vs:Array Value) (cs':List VV),RLs G vs cs →
   vps.length=parts.length→(∀(i:Nat) (p:Nat×VV) (q:Nat×Value),parts[i]?=some p→vps[i]?=some q→p.1=q.1∧R G q.2 p.2) →
   vfill P T cs parts=some cs'→∃vs',Instr.fill place vs vps=some vs'∧RLs G vs' cs'
 |[],[],cs,vs,cs',h,_,_,hf=>by
  simp only[vfill,Option.some.injEq]at hf
  subst hf
  exact⟨vs,rfl,h⟩
 |(j,x)::parts,(j',v)::vps,cs,vs,cs',h,hl,hp,hf=>by
  obtain⟨e,hr⟩:=hp 0 _ _ rfl rfl
  simp only at e hr
  subst e
  simp only[vfill]at hf
  cases hq:qp P T j with
  |none=>simp[hq]at hf
  |some q=>
   obtain⟨off,sz⟩:=q
   simp only[hq]at hf
   split at hf
   ·rename_i hc
    obtain⟨h1,h2,h3⟩:=hc
    have hpj:=hpl j off sz hq
    have hcell:=RLs.of_cells hr h3
    have hsz:v.cells.size=sz:=hcell.1.trans h1
    have hlen:vs.size=cs.length:=h.1
    have hle:off+x.cells.length≤cs.length:=by omega
    have hstep:=foldl_splice v.cells.toList off vs 0 (by simp;omega)
    have h':=h.splice hcell hle
    simp only[Nat.add_zero]at hstep
    rw[← hstep,Array.toArray_toList]at h'
    obtain⟨vs',hv',hr'⟩:=run_fill place hpl parts vps _ _ cs' h' (by simpa using hl) (fun i p q hpi hqi=>hp (i+1) p q (by simpa using hpi) (by simpa using hqi)) hf
    refine⟨vs',?_,hr'⟩
    simp only[Instr.fill,hpj]
    rw[if_neg (by simp;omega)]
    rw[← hv',← Array.foldl_toList,Array.toList_zipIdx]
   ·cases hf
theorem run_mapM_places {fs:Array Field}(h:∀f,f∈fs→∃i,P.info? f.type=some i) :
  ∃places:Array (Nat×Nat),(fs.mapM (m:=Sem) fun f=>do pure (f.offset,← sizeOf f.type)).run P w=.ok places w ∧
   ∀(j:Nat) (f:Field),fs[j]?=some f→∃i:TypeInfo,P.info? f.type=some i∧places[j]?=some (f.offset,i.size):=by
 have key:∀(l:List Field),(∀f,f∈l→∃i,P.info? f.type=some i) →
   ∃ps:List (Nat×Nat),(l.mapM (m:=Sem) fun f=>do pure (f.offset,← sizeOf f.type)).run P w=.ok ps w ∧
    ∀(j:Nat) (f:Field),l[j]?=some f→∃i:TypeInfo,P.info? f.type=some i∧ps[j]?=some (f.offset,i.size):=by
  intro l
  induction l with
  |nil=>exact fun _=>⟨[],by simp,fun j f hj=>by simp at hj⟩
  |cons f l ih=>
   intro hl
   obtain⟨i,hi⟩:=hl f (List.mem_cons_self)
   obtain⟨ps,hps,hj⟩:=ih fun g hg=>hl g (List.mem_cons_of_mem _ hg)
   refine⟨(f.offset,i.size)::ps,?_,fun j g hg=>?_⟩
   ·simp only[List.mapM_cons,Sem.run_bind,run_sizeOf hi,Result.andThen_ok,Sem.run_pure,hps]
   ·cases j with
    |zero=>simp at hg;subst hg;exact⟨i,hi,rfl⟩
    |succ j=>simpa using hj j g (by simpa using hg)
 obtain⟨ps,hps,hj⟩:=key fs.toList (fun f hf=>h f (by simpa using hf))
 refine⟨ps.toArray,?_,fun j f hf=>by simpa using hj j f (by simpa using hf)⟩
 rw[Array.mapM_eq_mapM_toList]
 simp only[Sem.run_map,hps,Result.andThen_ok]
theorem run_build {T:TypeId}{parts:List (Nat×VV)}{vps:Array (Nat×Value)}{cs':List VV}(hz:(qi P T).zok=true)
  (hl:vps.size=parts.length) (hp:∀(i:Nat) (p:Nat×VV) (q:Nat×Value),parts[i]?=some p→vps[i]?=some q→p.1=q.1∧R G q.2 p.2)
  (h:vfill P T (qi P T).z parts=some cs') (hst:fok P T=true) :
  ∃vs',(Instr.build T vps).run P w=.ok (.agg vs') w∧RLs G vs' cs':=by
 obtain⟨z,i,d,hi,hd,hk,hs,hzz,hpos,hzs,hag,hrl⟩:=RLs.zero (P:=P) (G:=G) hz
 have hst':(∃fs,P.underlying T=some (.struct fs)∧∀f,f∈fs→∃i,P.info? f.type=some i)∨∃n e ie,P.underlying T=some (.array n e)∧P.info? e=some ie:=by
  unfold fok at hst
  split at hst
  ·rename_i fs ht
   refine .inl ⟨fs,ht,fun f hf=>?_⟩
   obtain⟨j,hj,rfl⟩:=Array.mem_iff_getElem.1 hf
   exact Option.isSome_iff_exists.1 (Array.all_eq_true.1 hst j hj)
  ·rename_i n e ht
   obtain⟨ie,hie⟩:=Option.isSome_iff_exists.1 hst
   exact .inr ⟨n,e,ie,ht,hie⟩
  ·cases hst
 rcases hst' with ⟨fs,ht,hfi⟩|⟨n,e,ie,ht,hie⟩
 ·obtain⟨places,hpl,hpj⟩:=run_mapM_places (P:=P) (w:=w) hfi
  have hplace:∀(j off sz:Nat),qp P T j=some (off,sz)→places[j]?=some (off,sz):=fun j off sz hq=>by
   unfold qp at hq
   simp only[ht]at hq
   obtain⟨q,hq,he⟩:=Option.map_eq_some_iff.1 hq
   unfold qf at hq
   simp only[ht]at hq
   cases hfj:fs[j]? with
   |none=>simp[hfj]at hq
   |some f=>
    simp only[hfj]at hq
    obtain⟨i,hi,hpp⟩:=hpj j f hfj
    cases hu:P.underlying f.type with
    |none=>simp[hu]at hq
    |some d=>
     simp only[hu,hi]at hq
     split at hq
     ·cases hq
     ·injection hq with hq
      subst hq
      simp only[Prod.mk.injEq]at he
      rw[hpp,← he.1,← he.2]
  obtain⟨vs',hv',hr'⟩:=run_fill (P:=P) (G:=G) (places[·]?) hplace parts vps.toList (qi P T).z z.cells cs' hrl (by simpa using hl)
   (fun i p q hpi hqi=>hp i p q hpi (by simpa using hqi)) h
  refine⟨vs',?_,hr'⟩
  unfold Instr.build
  simp only[Sem.run_bind,zeroValue,typeInfo,run_program,Result.andThen_ok,hi,Sem.run_pure,hzz,run_underlying ht,hpl,hv']
 ·have hplace:∀(j off sz:Nat),qp P T j=some (off,sz)→(fun i=>some (i * ie.size,ie.size)) j=some (off,sz):=fun j off sz hq=>by
   unfold qp at hq
   simp only[ht,hie]at hq
   split at hq
   ·cases hq
   ·exact hq
  obtain⟨vs',hv',hr'⟩:=run_fill (P:=P) (G:=G) (fun i=>some (i * ie.size,ie.size)) hplace parts vps.toList (qi P T).z z.cells cs' hrl (by simpa using hl)
   (fun i p q hpi hqi=>hp i p q hpi (by simpa using hqi)) h
  refine⟨vs',?_,hr'⟩
  unfold Instr.build
  simp only[Sem.run_bind,zeroValue,typeInfo,run_program,Result.andThen_ok,hi,Sem.run_pure,hzz,run_underlying ht,run_sizeOf hie,hv']
theorem vrow_spec {sz:Nat}:∀(parts:List (Nat×VV)) (i:Nat) (xs:List (List VV)),vrow sz i parts=some xs →
  xs.length=parts.length∧(∀x,x∈xs→x.length=sz)∧(∀x,x∈xs→∀y,y∈x→y.one=true) ∧
   ∀(j:Nat) (p:Nat×VV),parts[j]?=some p→p.1=i+j∧xs[j]?=some p.2.cells∧p.2.cells.all VV.one=true
 |[],i,xs,h=>by
  simp only[vrow,Option.some.injEq]at h
  subst h
  simp
 |(k,x)::parts,i,xs,h=>by
  simp only[vrow]at h
  split at h
  ·rename_i hc
   obtain⟨hk,hl,ho⟩:=hc
   cases hr:vrow sz (i+1) parts with
   |none=>simp[hr]at h
   |some ys=>
    simp only[hr,Option.map_some,Option.some.injEq]at h
    subst h
    obtain⟨h1,h2,h3,h4⟩:=vrow_spec parts (i+1) ys hr
    refine⟨by simp[h1],fun z hz=>?_,fun z hz=>?_,fun j p hj=>?_⟩
    ·rcases List.mem_cons.1 hz with rfl|hz
     ·exact hl
     ·exact h2 z hz
    ·rcases List.mem_cons.1 hz with rfl|hz
     ·exact fun y hy=>List.all_eq_true.1 ho y hy
     ·exact h3 z hz
    ·cases j with
     |zero=>simp at hj;subst hj;exact⟨hk,rfl,ho⟩
     |succ j=>
      obtain⟨a,b,c⟩:=h4 j p (by simpa using hj)
      exact⟨by omega,by simpa using b,c⟩
  ·cases h
theorem run_fillRow {sz:Nat}:∀(parts:List (Nat×VV)) (vps:List (Nat×Value)) (i:Nat) (xs:List (List VV)) (cs:Array Value),vrow sz i parts=some xs →
  vps.length=parts.length→(∀(i:Nat) (p:Nat×VV) (q:Nat×Value),parts[i]?=some p→vps[i]?=some q→p.1=q.1∧R G q.2 p.2) →
  (i+parts.length) * sz≤cs.size →
  ∃vs:Array Value,Instr.fill (fun i=>some (i * sz,sz)) cs vps=some vs∧vs.size=cs.size∧(∀k,k<i * sz→vs[k]?=cs[k]?) ∧
   ∀(j m:Nat) (x:List VV) (y:VV),xs[j]?=some x→x[m]?=some y→∃v,vs[(i+j) * sz+m]?=some v∧R G v y
 |[],[],i,xs,cs,h,_,_,_=>by
  simp only[vrow,Option.some.injEq]at h
  subst h
  exact⟨cs,rfl,rfl,fun _ _=>rfl,by simp⟩
 |(k,x)::parts,(k',v)::vps,i,xs,cs,h,hl,hp,hle=>by
  simp only[vrow]at h
  split at h
  ·rename_i hc
   obtain⟨hk,hlx,ho⟩:=hc
   cases hr:vrow sz (i+1) parts with
   |none=>simp[hr]at h
   |some ys=>
    simp only[hr,Option.map_some,Option.some.injEq]at h
    subst h
    obtain⟨e,hv⟩:=hp 0 _ _ rfl rfl
    simp only at e hv
    subst e
    subst hk
    obtain⟨hvs,_,hvr⟩:=cells_spec hv ho
    have hmul:(k+1) * sz≤(k+(parts.length+1)) * sz:=Nat.mul_le_mul_right _ (by omega)
    have hmul2:(k+1) * sz=k * sz+sz:=Nat.succ_mul k sz
    simp only[List.length_cons]at hle
    have hfit:k * sz+v.cells.toList.length≤cs.size:=by simp;omega
    have hstep:=foldl_splice v.cells.toList (k * sz) cs 0 (by simpa using hfit)
    simp only[Nat.add_zero]at hstep
    have hlen1:(splice cs.toList (k * sz) v.cells.toList).length=cs.size:=by
     rw[splice_length _ _ _ (by simpa using hfit)];simp
    obtain⟨vs,hf,hs,hlow,hall⟩:=run_fillRow parts vps (k+1) ys (splice cs.toList (k * sz) v.cells.toList).toArray hr (by simpa using hl)
     (fun i p q hpi hqi=>hp (i+1) p q (by simpa using hpi) (by simpa using hqi))
     (by rw[List.size_toArray,hlen1,show k+1+parts.length=k+(parts.length+1) by omega];exact hle)
    refine⟨vs,?_,by rw[hs,List.size_toArray,hlen1],fun q hq=>?_,fun j m z y hz hy=>?_⟩
    ·simp only[Instr.fill]
     rw[if_neg (by simp at hfit ⊢;omega),← hf,← Array.foldl_toList,Array.toList_zipIdx,← hstep,Array.toArray_toList]
    ·rw[hlow q (by omega),List.getElem?_toArray,splice_get _ _ _ _ (by simpa using hfit),if_neg (by omega)]
     simp
    ·cases j with
     |zero=>
      simp only[List.getElem?_cons_zero,Option.some.injEq]at hz
      subst hz
      have hm:m<x.cells.length:=(List.getElem?_eq_some_iff.1 hy).1
      rw[Nat.add_zero,hlow _ (by omega),List.getElem?_toArray,splice_get _ _ _ _ (by simpa using hfit),if_pos (by simp;omega)]
      have hmv:m<v.cells.size:=by omega
      refine⟨v.cells[m],by simp[hmv],hvr m _ y (Array.getElem?_eq_getElem hmv) hy⟩
     |succ j=>
      obtain⟨u,hu,hru⟩:=hall j m z y (by simpa using hz) hy
      exact⟨u,by rw[← hu];congr 3;omega,hru⟩
  ·cases h
theorem run_buildSlice {T e:TypeId}{len:Nat}{parts:List (Nat×VV)}{vps:Array (Nat×Value)}{xs:List (List VV)}(hS:Sim w0 G w s)
  (hk:(qi P T).k=.slice e) (hz:(qi P e).zok=true) (hlen:parts.length=len) (hbig:len * (qi P e).sz≤16777216)
  (hl:vps.size=parts.length) (hp:∀(i:Nat) (p:Nat×VV) (q:Nat×Value),parts[i]?=some p→vps[i]?=some q→p.1=q.1∧R G q.2 p.2)
  (h:vrow (qi P e).sz 0 parts=some xs) :
  ∃v w' G',(Instr.buildSlice T len vps).run P w=.ok v w'∧G.le G'∧Sim w0 G' w' s∧R G' v (.lst xs (ownLit len)):=by
 obtain⟨dT,iT,hdT,hiT,hkT,_⟩:=qi_spec (P:=P) T (.inr (.inl (by rw[hk];simp)))
 have hdT':dT=.slice e:=by
  rw[hk]at hkT
  cases dT<;>simp[qkOf]at hkT
  rw[hkT]
 subst hdT'
 obtain⟨z,i,d,hi,hd,hke,hs,hzz,hpos,hzs,hag,hrl⟩:=RLs.zero (P:=P) (G:=G) hz
 obtain⟨hxl,hx2,hx3,_⟩:=vrow_spec parts 0 xs h
 by_cases h00:len=0
 ·subst h00
  have hp0:parts=[]:=List.eq_nil_of_length_eq_zero hlen
  subst hp0
  have hv0:vps=#[]:=by simpa using hl
  subst hv0
  have hx0:xs=[]:=by simpa [vrow]using h.symm
  subst hx0
  refine⟨.slice (some ⟨w.heap.size,0,none⟩) 0 0,_,G,?_,Gh.le.refl G,hS.alloc (.cells #[] e),.emp _ _ _ (.inl rfl)⟩
  unfold Instr.buildSlice
  simp[run_underlying hdT,run_sizeOf hi,Instr.fill,newRow]
  rw[show (Array.range 0:Array Nat)=#[] from Array.eq_empty_of_size_eq_zero (by simp),Array.map_empty]
 have h0:0<len:=by omega
 have hown:ownLit len=.full:=by cases len with|zero=>omega|succ n=>rfl
 rw[hown]
 have hzne:len * i.size≠0:=by
  have:=Nat.mul_pos h0 hpos
  omega
 obtain⟨vs,hf,hvs,_,hall⟩:=run_fillRow (G:=G) parts vps.toList 0 xs ((Array.range (len * i.size)).map fun q=>z.cells[q % z.cells.size]!) h
  (by simpa using hl) (fun i p q hpi hqi=>hp i p q hpi (by simpa using hqi)) (by simp[hlen,hs])
 obtain⟨hS',hG'⟩:=hS.alloc_know e vs
 refine⟨.slice (some ⟨w.heap.size,0,none⟩) len len,_,_,?_,hG',hS',?_⟩
 ·unfold Instr.buildSlice
  simp only[Sem.run_bind,run_underlying hdT,Result.andThen_ok,run_sizeOf hi,Sem.run_ite]
  rw[if_neg (by rw[hs]at hbig;omega)]
  simp only[hzne,if_false,Sem.run_bind,zeroValue,typeInfo,run_program,hi,Result.andThen_ok,hzz,Sem.run_pure]
  rw[hs]at hf
  rw[hf]
  simp only[newRow,Sem.run_bind,run_newObj,Result.andThen_ok,Sem.run_pure]
  rfl
 ·have hvsz:vs.size=len * i.size:=by rw[hvs];simp
  refine .lst w.heap.size 0 len len (qi P e).sz xs .full (fun a b=>(vs[a * (qi P e).sz+b]?).getD default) (by omega) (Nat.le_refl _) hx2 hx3 (fun a b ha hb=>?_) (fun a b x y hxa hyb=>?_) (.inr (.inl ⟨rfl,rfl,by omega⟩))
  ·rw[Gh.know_K,Nat.zero_add]
   have:a * (qi P e).sz+b<vs.size:=by
    rw[hvsz,← hs]
    have:=Nat.mul_le_mul_right (qi P e).sz (show a+1≤len by omega)
    rw[Nat.succ_mul]at this
    omega
   simp[this]
  ·obtain⟨v,hv,hr⟩:=hall a b x y hxa hyb
   rw[Nat.zero_add]at hv
   simp only[hv,Option.getD_some]
   exact hr.mono hG'
end
inductive Tr where
 |lf (b:Bool)
 |nd (v:Nat) (l h:Tr)
def evT:Tr→(Nat→Bool)→Bool
 |.lf b,_=>b
 |.nd v l h,x=>if x v=true then evT h x else evT l x
def OkT (n:Nat):Nat→Tr→Prop
 |_,.lf _=>True
 |m,.nd v l h=>m≤v∧v<n∧l≠h∧OkT n (v+1) l∧OkT n (v+1) h
def updB (x:Nat→Bool)(v:Nat)(b:Bool):Nat→Bool:=fun i=>if i=v then b else x i
theorem updB_same {x:Nat→Bool}{v:Nat}{b:Bool}:updB x v b v=b:=if_pos rfl
theorem updB_ne {x:Nat→Bool}{v i:Nat}{b:Bool}(h:i≠v):updB x v b i=x i:=if_neg h
theorem updB_self {x:Nat→Bool}{v:Nat}:updB x v (x v)=x:=by
 funext i
 unfold updB
 split
 ·rename_i h;rw[h]
 ·rfl
theorem updB_comm {x:Nat→Bool}{v w:Nat}{b c:Bool}(h:v≠w):updB (updB x v b) w c=updB (updB x w c) v b:=by
 funext i
 unfold updB
 by_cases h1:i=w
 ·subst h1;rw[if_pos rfl,if_neg (Ne.symm h),if_pos rfl]
 ·rw[if_neg h1]
  by_cases h2:i=v
  ·rw[if_pos h2,if_pos h2]
  ·rw[if_neg h2,if_neg h2,if_neg h1]
theorem OkT.mono {n:Nat}:∀{t:Tr} {m m':Nat},OkT n m t→m'≤m→OkT n m' t
 |.lf _,_,_,_,_=>trivial
 |.nd v l h,m,m',⟨h1,h2⟩,hm=>⟨Nat.le_trans hm h1,h2⟩
theorem evT_indep {n:Nat}:∀{t:Tr} {m v:Nat} {x:Nat→Bool} {b:Bool},OkT n m t→v<m→evT t (updB x v b)=evT t x
 |.lf _,_,_,_,_,_,_=>rfl
 |.nd w l h,m,v,x,b,⟨h1,h2,h3,h4,h5⟩,hv=>by
  have hw:w≠v:=by omega
  simp only[evT,updB_ne hw]
  rw[evT_indep h4 (show v<w+1 by omega),evT_indep h5 (show v<w+1 by omega)]
theorem evT_lo {n:Nat}{v:Nat}{l h:Tr}(hl:OkT n (v+1) l)(x:Nat→Bool):evT (.nd v l h) (updB x v false)=evT l x:=by
 simp only[evT,updB_same]
 exact evT_indep hl (by omega)
theorem evT_hi {n:Nat}{v:Nat}{l h:Tr}(hh:OkT n (v+1) h)(x:Nat→Bool):evT (.nd v l h) (updB x v true)=evT h x:=by
 simp only[evT,updB_same]
 exact evT_indep hh (by omega)
theorem canonT {n:Nat}:∀{a b:Tr} {m:Nat},OkT n m a→OkT n m b→(∀x,evT a x=evT b x)→a=b
 |.lf a,.lf b,_,_,_,h=>by have:=h fun _=>false;simp only[evT]at this;rw[this]
 |.lf a,.nd v l h,m,ha,⟨h1,h2,h3,h4,h5⟩,he=>by
  refine absurd (canonT h4 h5 fun x=>?_) h3
  rw[← evT_lo (h:=h) h4 x,← evT_hi (l:=l) h5 x,← he,← he];rfl
 |.nd v l h,.lf b,m,⟨h1,h2,h3,h4,h5⟩,hb,he=>by
  refine absurd (canonT h4 h5 fun x=>?_) h3
  rw[← evT_lo (h:=h) h4 x,← evT_hi (l:=l) h5 x,he,he];rfl
 |.nd v l h,.nd w l' h',m,⟨a1,a2,a3,a4,a5⟩,⟨b1,b2,b3,b4,b5⟩,he=>by
  rcases Nat.lt_trichotomy v w with hvw|hvw|hvw
  ·have hb:OkT n (v+1) (.nd w l' h'):=⟨hvw,b2,b3,b4,b5⟩
   refine absurd (canonT a4 a5 fun x=>?_) a3
   rw[← evT_lo (h:=h) a4 x,← evT_hi (l:=l) a5 x,he,he,evT_indep hb (by omega),evT_indep hb (by omega)]
  ·subst hvw
   have e1:l=l':=canonT a4 b4 fun x=>by rw[← evT_lo (h:=h) a4 x,← evT_lo (h:=h') b4 x,he]
   have e2:h=h':=canonT a5 b5 fun x=>by rw[← evT_hi (l:=l) a5 x,← evT_hi (l:=l') b5 x,he]
   rw[e1,e2]
  ·have ha:OkT n (w+1) (.nd v l h):=⟨hvw,a2,a3,a4,a5⟩
   refine absurd (canonT b4 b5 fun x=>?_) b3
   rw[← evT_lo (h:=h') b4 x,← evT_hi (l:=l') b5 x,← he,← he,evT_indep ha (by omega),evT_indep ha (by omega)]
termination_by a b=>SizeOf.sizeOf a+SizeOf.sizeOf b
open Classical in
noncomputable def mkT (v:Nat)(l h:Tr):Tr:=if l=h then l else .nd v l h
theorem mkT_ev {v:Nat}{l h:Tr}(x:Nat→Bool):evT (mkT v l h) x=if x v=true then evT h x else evT l x:=by
 unfold mkT
 split
 ·rename_i e;subst e;simp
 ·rfl
theorem mkT_ok {n m v:Nat}{l h:Tr}(hm:m≤v)(hv:v<n)(hl:OkT n (v+1) l)(hh:OkT n (v+1) h):OkT n m (mkT v l h):=by
 unfold mkT
 split
 ·exact hl.mono (by omega)
 ·rename_i e;exact⟨hm,hv,e,hl,hh⟩
def Hang (n:Nat)(g:(Nat→Bool)→Bool):Prop:=∀x y,(∀i,i<n→x i=y i)→g x=g y
noncomputable def treeF (n:Nat):Nat→((Nat→Bool)→Bool)→Tr
 |0,g=>.lf (g fun _=>false)
 |k+1,g=>mkT (n - (k+1)) (treeF n k fun x=>g (updB x (n - (k+1)) false)) (treeF n k fun x=>g (updB x (n - (k+1)) true))
theorem treeF_ok {n:Nat}:∀{k:Nat} {g:(Nat→Bool)→Bool},k≤n→OkT n (n - k) (treeF n k g)
 |0,_,_=>trivial
 |k+1,g,hk=>by
  have e:n - (k+1)+1=n - k:=by omega
  exact mkT_ok (Nat.le_refl _) (by omega) (by rw[e];exact treeF_ok (by omega)) (by rw[e];exact treeF_ok (by omega))
theorem treeF_ev {n:Nat}:∀{k:Nat} {g:(Nat→Bool)→Bool} (x:Nat→Bool),k≤n→(∀x y,(∀i,n - k≤i→i<n→x i=y i)→g x=g y)→evT (treeF n k g) x=g x
 |0,g,x,_,hg=>hg _ _ fun i h1 h2=>by omega
 |k+1,g,x,hk,hg=>by
  simp only[treeF,mkT_ev]
  have key:∀b,evT (treeF n k fun x=>g (updB x (n - (k+1)) b)) x=g (updB x (n - (k+1)) b):=fun b=>
   treeF_ev (g:=fun x=>g (updB x (n - (k+1)) b)) x (by omega) fun x y h=>hg _ _ fun i h1 h2=>by
    by_cases e:i=n - (k+1)
    ·subst e;rw[updB_same,updB_same]
    ·rw[updB_ne e,updB_ne e];exact h i (by omega) h2
  by_cases hb:x (n - (k+1))=true
  ·rw[if_pos hb,key,← hb,updB_self]
  ·rw[if_neg hb,key]
   have:x (n - (k+1))=false:=by simpa using hb
   rw[← this,updB_self]
noncomputable def treeT (n:Nat)(g:(Nat→Bool)→Bool):Tr:=treeF n n g
theorem treeT_ok {n:Nat}{g:(Nat→Bool)→Bool}:OkT n 0 (treeT n g):=(treeF_ok (Nat.le_refl n)).mono (by omega)
theorem treeT_ev {n:Nat}{g:(Nat→Bool)→Bool}(hg:Hang n g)(x:Nat→Bool):evT (treeT n g) x=g x:=
 treeF_ev x (Nat.le_refl n) fun x y h=>hg x y fun i hi=>h i (by omega) hi
theorem evT_hang {n:Nat}:∀{t:Tr} {m:Nat},OkT n m t→Hang n (evT t)
 |.lf _,_,_=>fun _ _ _=>rfl
 |.nd v l h,m,⟨h1,h2,h3,h4,h5⟩=>fun x y he=>by
  simp only[evT]
  rw[he v h2,evT_hang h4 x y he,evT_hang h5 x y he]
theorem treeT_of {n m:Nat}{t:Tr}(h:OkT n m t):treeT n (evT t)=t:=
 canonT treeT_ok (h.mono (Nat.zero_le _)) fun x=>treeT_ev (evT_hang h) x
theorem treeT_eq {n m:Nat}{t:Tr}{g:(Nat→Bool)→Bool}(h:OkT n m t)(hg:∀x,evT t x=g x):treeT n g=t:=by
 have:g=evT t:=funext fun x=>(hg x).symm
 rw[this];exact treeT_of h
noncomputable def iteT (n:Nat)(a b c:Tr):Tr:=treeT n fun x=>if evT a x=true then evT b x else evT c x
theorem iteT_hang {n:Nat}{a b c:Tr}(ha:OkT n 0 a)(hb:OkT n 0 b)(hc:OkT n 0 c):Hang n fun x=>if evT a x=true then evT b x else evT c x:=fun x y h=>by
 simp only
 rw[evT_hang ha x y h,evT_hang hb x y h,evT_hang hc x y h]
theorem iteT_ok {n:Nat}{a b c:Tr}:OkT n 0 (iteT n a b c):=treeT_ok
theorem iteT_ev {n:Nat}{a b c:Tr}(ha:OkT n 0 a)(hb:OkT n 0 b)(hc:OkT n 0 c)(x:Nat→Bool):evT (iteT n a b c) x=if evT a x=true then evT b x else evT c x:=
 treeT_ev (iteT_hang ha hb hc) x
def loT (v:Nat):Tr→Tr
 |.lf b=>.lf b
 |.nd w l h=>if w=v then l else .nd w l h
def hiT (v:Nat):Tr→Tr
 |.lf b=>.lf b
 |.nd w l h=>if w=v then h else .nd w l h
def topT (n:Nat):Tr→Nat
 |.lf _=>n
 |.nd v _ _=>v
theorem OkT.at_top {n m v:Nat}{t:Tr}(h:OkT n m t)(hv:v≤topT n t)(hvn:v<n):OkT n v t∧OkT n (v+1) (loT v t)∧OkT n (v+1) (hiT v t):=by
 cases t with
 |lf b=>exact⟨trivial,trivial,trivial⟩
 |nd w l h'=>
  obtain⟨h1,h2,h3,h4,h5⟩:=h
  simp only[topT]at hv
  refine⟨⟨hv,h2,h3,h4,h5⟩,?_,?_⟩
  ·show OkT n (v+1) (if w=v then l else .nd w l h')
   split
   ·rename_i e;subst e;exact h4
   ·rename_i e;exact⟨by omega,h2,h3,h4,h5⟩
  ·show OkT n (v+1) (if w=v then h' else .nd w l h')
   split
   ·rename_i e;subst e;exact h5
   ·rename_i e;exact⟨by omega,h2,h3,h4,h5⟩
theorem evT_split {n m v:Nat}{t:Tr}(h:OkT n m t)(hv:v≤topT n t)(x:Nat→Bool):evT t x=if x v=true then evT (hiT v t) x else evT (loT v t) x:=by
 cases t with
 |lf b=>simp[loT,hiT,evT]
 |nd w l h'=>
  show _=if x v=true then evT (if w=v then h' else .nd w l h') x else evT (if w=v then l else .nd w l h') x
  by_cases e:w=v
  ·subst e;rw[if_pos rfl,if_pos rfl];rfl
  ·rw[if_neg e,if_neg e];simp
theorem OkT.weak {n m:Nat}{t:Tr}(h:OkT n m t):OkT n 0 t:=h.mono (Nat.zero_le _)
theorem iteT_step {n v:Nat}{a b c:Tr}(ha:OkT n 0 a)(hb:OkT n 0 b)(hc:OkT n 0 c)(hva:v≤topT n a)(hvb:v≤topT n b)(hvc:v≤topT n c)(hv:v<n) :
  OkT n (v+1) (iteT n (loT v a) (loT v b) (loT v c))∧OkT n (v+1) (iteT n (hiT v a) (hiT v b) (hiT v c))∧iteT n a b c=mkT v (iteT n (loT v a) (loT v b) (loT v c)) (iteT n (hiT v a) (hiT v b) (hiT v c)):=by
 obtain⟨_,a1,a2⟩:=ha.at_top hva hv
 obtain⟨_,b1,b2⟩:=hb.at_top hvb hv
 obtain⟨_,c1,c2⟩:=hc.at_top hvc hv
 have up:∀{p q r:Tr},OkT n (v+1) p→OkT n (v+1) q→OkT n (v+1) r→OkT n (v+1) (iteT n p q r):=fun {p q r} hp hq hr=>by
  have hk:n - (n - (v+1))=v+1:=by omega
  have h1:OkT n (v+1) (treeF n (n - (v+1)) fun x=>if evT p x=true then evT q x else evT r x):=by
   have:=treeF_ok (n:=n) (k:=n - (v+1)) (g:=fun x=>if evT p x=true then evT q x else evT r x) (by omega)
   rwa [hk]at this
  have h2:iteT n p q r=treeF n (n - (v+1)) fun x=>if evT p x=true then evT q x else evT r x:=by
   refine treeT_eq h1 fun x=>treeF_ev x (by omega) fun x y h=>?_
   have in_:∀{t:Tr},OkT n (v+1) t→evT t x=evT t y:=fun {t} ht=>by
    have hang:∀{t:Tr} {m:Nat},OkT n m t→m=v+1∨v+1≤m→evT t x=evT t y:=fun {t}=>by
     induction t with
     |lf b=>intro m _ _;rfl
     |nd w l h' il ih=>
      intro m ⟨h1,h2,h3,h4,h5⟩ hm
      simp only[evT]
      rw[h w (by omega) h2,il h4 (by omega),ih h5 (by omega)]
    exact hang ht (.inl rfl)
   rw[in_ hp,in_ hq,in_ hr]
  rw[h2];exact h1
 have hl:=up a1 b1 c1
 have hh:=up a2 b2 c2
 refine⟨hl,hh,treeT_eq (mkT_ok (Nat.zero_le v) hv hl hh) fun x=>?_⟩
 rw[mkT_ev,iteT_ev a1.weak b1.weak c1.weak,iteT_ev a2.weak b2.weak c2.weak,evT_split ha hva x,evT_split hb hvb x,evT_split hc hvc x]
 by_cases e:x v=true
 ·simp[e]
 ·simp[e]
theorem iteT_one {n:Nat}{b c:Tr}(hb:OkT n 0 b)(hc:OkT n 0 c):iteT n (.lf true) b c=b:=treeT_eq hb fun x=>by simp[evT]
theorem iteT_zero {n:Nat}{b c:Tr}(hb:OkT n 0 b)(hc:OkT n 0 c):iteT n (.lf false) b c=c:=treeT_eq hc fun x=>by simp[evT]
theorem iteT_same {n:Nat}{a b:Tr}(ha:OkT n 0 a)(hb:OkT n 0 b):iteT n a b b=b:=treeT_eq hb fun x=>by simp
theorem iteT_self {n:Nat}{a:Tr}(ha:OkT n 0 a):iteT n a (.lf true) (.lf false)=a:=treeT_eq ha fun x=>by simp only[evT];cases evT a x<;>rfl
def subsT:Tr→List Tr
 |.lf _=>[]
 |.nd v l h=>.nd v l h::(subsT l++subsT h)
theorem subs_trans:∀{t s u:Tr},s∈subsT t→u∈subsT s→u∈subsT t
 |.lf _,_,_,h,_=>by simp[subsT]at h
 |.nd v l h',s,u,h,hu=>by
  simp only[subsT,List.mem_cons,List.mem_append]at h
  rcases h with rfl|h|h
  ·exact hu
  ·simp only[subsT,List.mem_cons,List.mem_append];exact .inr (.inl (subs_trans h hu))
  ·simp only[subsT,List.mem_cons,List.mem_append];exact .inr (.inr (subs_trans h hu))
theorem subs_mk {v:Nat}{l h u:Tr}(hu:u∈subsT l∨u∈subsT h):u∈subsT (mkT v l h):=by
 unfold mkT
 split
 ·rename_i e;subst e;rcases hu with hu|hu<;>exact hu
 ·simp only[subsT,List.mem_cons,List.mem_append];exact .inr hu
def SubN (t:Tr)(m:Nat):Prop:=∃S:List Tr,S.length≤m∧∀u,u∈subsT t→u∈S
theorem SubN.mono {t:Tr}{m m':Nat}(h:SubN t m)(hm:m≤m'):SubN t m':=by
 obtain⟨S,h1,h2⟩:=h
 exact⟨S,by omega,h2⟩
theorem SubN.lf (b:Bool):SubN (.lf b) 0:=⟨[],by simp,fun u hu=>by simp[subsT]at hu⟩
theorem SubN.self (t:Tr):SubN t (subsT t).length:=⟨_,Nat.le_refl _,fun _ h=>h⟩
open Go.RowKit Go.Lib
def oddB (c:Nat):Bool:=((decide (c<97) || decide (122<c)) && (decide (c<65) || decide (90<c))) && (decide (c<48) || decide (57<c))
set_option maxHeartbeats 4000000 in
theorem n_odd (W:World)(x:Nat):FnGives Tryz.prog 158 #[] #[.int .i32 (x:Int)] (.bool (oddB x)) W:=by
 unfold FnGives
 go_enter Tryz.func158,Tryz.ntmps158
 go_wp2
 all_goals go_ret
 all_goals refine⟨?_,0,rfl⟩
 all_goals refine congrArg (fun b=>Ending.returned (Value.bool b)) (?_:_=oddB x)
 all_goals rw[Bool.eq_iff_iff]
 all_goals simp only[oddB,Bool.and_eq_true,Bool.or_eq_true,decide_eq_true_eq]
 all_goals first|omega|(simp;omega)
def alnB (b:UInt8):Bool:=!oddB b.toNat
theorem idx_odd (s:ByteArray)(w:World):Calls Tryz.prog 159 #[.string s,.func (.func 158) #[] #[]] w fun e w'=>e=.returned (.int .i64 (Lib.idxFunc oddB true s))∧Below w.heap.size w w':=
 Tryz.strings_IndexFunc 158 #[] (enters_of Tryz.func158 (by kernel_rfl) rfl) oddB s w fun W x _=>n_odd W x
end Go.Proofs.YtohnaepcgnbaiaaGreatDoor
