/- Walks of functions, and plain facts. Conditions: those in the statements. -/
import Derived.Test.YteldpmgepfaiiaaGreatDoorQsGpj
import Derived.Test.YteldpmgepfaiiaaGreatDoorQsLexj
set_option linter.unusedSimpArgs false
set_option linter.unusedVariables false
set_option maxRecDepth 100000
namespace Go.Proofs.YteldpmgepfaiiaaGreatDoor
open Go.RowKit
theorem rx (x:VV)(s:St):EA Tryz.prog 154 [x] s fun e t=>e=.ret x/\t=s:=by
 intro w0 G w vs hS hvs
 obtain⟨v,rfl,hv⟩:=Ar hvs
 refine⟨v,w,G,s,x,?_,Gh.le.refl G,hS,hv,rfl,rfl⟩
 have hf:=Tryz.func154
 have hn:(Tryz.f154.name == "runtime.NumGoroutine")=false:=by kernel_rfl
 have hx:Extern.findNext Tryz.f154=none:=by kernel_rfl
 have hy:Extern.find Tryz.f154=some Extern.AbiNoEscape.same:=by kernel_rfl
 have hb:Tryz.f154.body.isNone=true:=by kernel_rfl
 unfold callFunc
 simp only[Sem.run_bind,run_program,Result.andThen_ok,hf,hn,hb,hx,hy,Bool.false_eq_true,if_false,if_true,run_mark,Lib.run_noEscape,Sem.run_pure]
theorem Jq:cv (.pointer none)=.raw (.pointer none):=rfl
theorem DX:gy .ptr (.raw (.pointer none)) (.raw (.pointer none))=some true:=rfl
attribute [go_sem] Jq DX
theorem cell?_freeze (w:World)(a p:Addr)(n:Nat):(w.freeze a n).cell? p=w.cell? p:=by
 unfold World.freeze
 split
 ·rfl
 ·by_cases h:a.block=p.block
  ·simp only[World.cell?,Array.getElem?_modify,h,if_true]
   cases w.heap[p.block]? with
   |none=>rfl
   |some o=>cases o<;>rfl
  ·simp only[World.cell?,Array.getElem?_modify,h,if_false]
theorem Sim.freeze {w0 w:World}{G:Gh}{s:St}(hS:Sim w0 G w s){g k n sz:Nat}{T:TypeId}(hg:s g=.vec T sz n)(hk:k<=n*sz):Sim w0 G (w.freeze ⟨g,0,none⟩ k) s:=by
 have ho:=hS.ok g
 rw[hg]at ho
 obtain⟨hB,c,cap,fz,hcap,hh,hfz,hcs,hnc,hcm,hKn⟩:=ho
 have hsz:(w.freeze ⟨g,0,none⟩ k).heap.size=w.heap.size:=by unfold World.freeze;split<;>simp
 have hoth:∀b,b≠g->(w.freeze ⟨g,0,none⟩ k).heap[b]?=w.heap[b]?:=fun b hb=>by
  unfold World.freeze
  split
  ·rfl
  ·simp only[Array.getElem?_modify]
   rw[if_neg (by omega)]
 refine⟨Lib.below_freeze hS.below hB k,fun b i v hv=>?_,fun b q hq=>by rw[hsz];exact hS.cap b q hq,fun b=>?_,hS.gl,hS.rows.keep' (Gh.le.refl G) (by rw[hsz];exact Nat.le_refl _) (fun b _ hb=>⟨hb,hoth b (by rintro rfl;rw[hg]at hb;cases hb),fun _=>rfl⟩) (fun x T xs rs hx=>⟨hx,hoth x (by rintro rfl;rw[hg]at hx;cases hx)⟩)⟩
 ·rw[cell?_freeze];exact hS.K b i v hv
 ·by_cases hb:b=g
  ·subst hb
   rw[hg]
   by_cases hk0:k=0
   ·subst hk0
    exact⟨hB,c,cap,fz,hcap,by unfold World.freeze;rw[if_pos rfl];exact hh,hfz,hcs,hnc,hcm,hKn⟩
   ·obtain⟨lo,hi⟩:=fz
    refine⟨hB,c,cap,_,hcap,by unfold World.freeze;rw[if_neg hk0];simp only[Array.getElem?_modify,if_true,hh,Option.map_some];rfl,?_,hcs,hnc,hcm,hKn⟩
    simp only at hfz ⊢
    split
    ·simpa using hk
    ·simp only;omega
  ·exact(hS.ok b).keep (hoth b hb) (Gh.le.refl G) (fun _=>rfl)
set_option maxHeartbeats 2000000 in
theorem JO (b g cap:Nat)(cs:Array Value)(l:List UInt8)(T:TypeId)(cur:Array Value)(fz:Nat×Nat)(w:World)(hbk:w.heap[b]?=some (.cells cs T (0,0)))(h1:cs[1]?=some (.slice (some ⟨g,0,none⟩) l.length cap))
  (hg:w.heap[g]?=some (.cells cur 5 fz)) (hcap:cap≠0) (hcur:l.length<=cur.size) (h0:l≠[]) (h63:l.length<=9223372036854775807) (hcells:∀j x,l[j]?=some x->w.cell? ⟨g,j,none⟩=some (.int .u8 x.toNat)) :
  Calls Tryz.prog 137 #[.pointer (some ⟨b,0,none⟩)] w fun e w'=>e=.returned (.string ⟨l.toArray⟩)/\w'=w.drew.freeze ⟨g,0,none⟩ l.length:=by
 have c1:w.drew.cell? ⟨b,1,none⟩=some (.slice (some ⟨g,0,none⟩) l.length cap):=by
  have:w.drew.heap[b]?=some (.cells cs T (0,0)):=hbk
  rw[Lib.cell_of_heap this];exact h1
 have hSD:(Builtin.unsafeSliceData_ #[156] 202 #[.slice (some ⟨g,0,none⟩) l.length cap]).run Tryz.prog w.drew=.ok (.pointer (some ⟨g,0,none⟩)) w.drew:=
  Lib.run_unsafeSliceData_row _ _ _ _ _ _ hcap
 have hUS:(Builtin.unsafeString_ #[202,3] 9 #[.pointer (some ⟨g,0,none⟩),.int .i64 l.length]).run Tryz.prog w.drew=.ok (.string ⟨l.toArray⟩) (w.drew.freeze ⟨g,0,none⟩ l.length):=by
  refine Lib.run_unsafeString_row w.drew 202 3 9 5 Tryz.underlying202 (by kernel_rfl) g cur.size (by have hg':w.drew.heap[g]?=some (.cells cur 5 fz):=hg;simp[World.shape?,hg']) l h0 hcur h63 ?_
  intro j x hx
  rw[dY,Nat.zero_add]
  exact hcells j x hx
 have mixed:Tryz.prog.follows .mixedOrders=true:=by kernel_rfl
 have t70:=Tryz.underlying209;have a70:=Tryz.isAgg209;have z70:=Tryz.sizeOf209;have v70:=Tryz.zeroValue209;have u70:=run_underlying Tryz.underlying209
 have t67:=Tryz.underlying207;have a67:=Tryz.isAgg207;have z67:=Tryz.sizeOf207;have v67:=Tryz.zeroValue207;have u67:=run_underlying Tryz.underlying207
 have t68:=Tryz.underlying156;have a68:=Tryz.isAgg156;have z68:=Tryz.sizeOf156;have v68:=Tryz.zeroValue156;have u68:=run_underlying Tryz.underlying156
 have t106:=Tryz.underlying202;have a106:=Tryz.isAgg202;have z106:=Tryz.sizeOf202;have v106:=Tryz.zeroValue202;have u106:=run_underlying Tryz.underlying202
 have t3:=Tryz.underlying3;have a3:=Tryz.isAgg3;have z3:=Tryz.sizeOf3;have v3:=Tryz.zeroValue3;have u3:=run_underlying Tryz.underlying3
 have t9:=Tryz.underlying9;have a9:=Tryz.isAgg9;have z9:=Tryz.sizeOf9;have v9:=Tryz.zeroValue9;have u9:=run_underlying Tryz.underlying9
 have t5:=Tryz.underlying5;have a5:=Tryz.isAgg5;have z5:=Tryz.sizeOf5;have v5:=Tryz.zeroValue5;have u5:=run_underlying Tryz.underlying5
 go_enter Tryz.func137,Tryz.ntmps137
 go_wp2
 go_region_o
 all_goals(go_wp2;go_ret;exact⟨rfl,rfl⟩)
set_option maxHeartbeats 2000000 in
theorem ER (b:Nat)(cs:Array Value)(T:TypeId)(w:World)(hbk:w.heap[b]?=some (.cells cs T (0,0)))(h1:cs[1]?=some (.slice none 0 0)) :
  Calls Tryz.prog 137 #[.pointer (some ⟨b,0,none⟩)] w fun e w'=>e=.returned (.string ⟨#[]⟩)/\w'=w.drew:=by
 have c1:w.drew.cell? ⟨b,1,none⟩=some (.slice none 0 0):=by
  have:w.drew.heap[b]?=some (.cells cs T (0,0)):=hbk
  rw[Lib.cell_of_heap this];exact h1
 have hSD:(Builtin.unsafeSliceData_ #[156] 202 #[.slice none 0 0]).run Tryz.prog w.drew=.ok (.pointer none) w.drew:=rfl
 have hUS:∀(W:World) (q:Option Addr),(Builtin.unsafeString_ #[202,3] 9 #[.pointer q,.int .i64 0]).run Tryz.prog W=.ok (.string .empty) W:=fun W q=>Lib.run_unsafeString_none W _ _ _ q
 have mixed:Tryz.prog.follows .mixedOrders=true:=by kernel_rfl
 have t70:=Tryz.underlying209;have a70:=Tryz.isAgg209;have z70:=Tryz.sizeOf209;have v70:=Tryz.zeroValue209;have u70:=run_underlying Tryz.underlying209
 have t67:=Tryz.underlying207;have a67:=Tryz.isAgg207;have z67:=Tryz.sizeOf207;have v67:=Tryz.zeroValue207;have u67:=run_underlying Tryz.underlying207
 have t68:=Tryz.underlying156;have a68:=Tryz.isAgg156;have z68:=Tryz.sizeOf156;have v68:=Tryz.zeroValue156;have u68:=run_underlying Tryz.underlying156
 have t106:=Tryz.underlying202;have a106:=Tryz.isAgg202;have z106:=Tryz.sizeOf202;have v106:=Tryz.zeroValue202;have u106:=run_underlying Tryz.underlying202
 have t3:=Tryz.underlying3;have a3:=Tryz.isAgg3;have z3:=Tryz.sizeOf3;have v3:=Tryz.zeroValue3;have u3:=run_underlying Tryz.underlying3
 have t9:=Tryz.underlying9;have a9:=Tryz.isAgg9;have z9:=Tryz.sizeOf9;have v9:=Tryz.zeroValue9;have u9:=run_underlying Tryz.underlying9
 have t5:=Tryz.underlying5;have a5:=Tryz.isAgg5;have z5:=Tryz.sizeOf5;have v5:=Tryz.zeroValue5;have u5:=run_underlying Tryz.underlying5
 go_enter Tryz.func137,Tryz.ntmps137
 go_wp2
 go_region_o
 all_goals(go_wp2;go_ret;exact⟨rfl,rfl⟩)
def dP (x:Sgn):Bool:=decide (x.text≠[]) && decide (bF x.text=(x.kind,x.text.length))
def fP (L:List Sgn):VV:=if L.all dP=true then .tup [.str (Lib.join (L.map (·.text)) [32]),.int .i64 0] else .tup [.str [],.int .i64 1]
theorem od (m:Nat)(sep:List UInt8):∀(xs:List (List UInt8)),(∀x,x∈xs->x.length<=m)->(Lib.join xs sep).length<=xs.length*(m+sep.length)
 |[],_=>by simp[Lib.join_nil]
 |x::r,h=>by
  rw[Lib.join_cons,d_]
  have h0:=h x (by simp)
  have h1:∀(r:List (List UInt8)),(∀y,y∈r->y.length<=m)->(Lib.joinTail sep r).length<=r.length*(m+sep.length):=by
   intro r
   induction r with
   |nil=>intro _;simp[Lib.joinTail]
   |cons y r ih=>
    intro hr
    have h2:=ih fun z hz=>hr z (by simp[hz])
    have h3:=hr y (by simp)
    simp only[Lib.joinTail,List.map_cons,List.flatten_cons,d_,List.length_cons,Nat.succ_mul]at h2 ⊢
    omega
  have h2:=h1 r fun y hy=>h y (by simp[hy])
  rw[List.length_cons,Nat.succ_mul]
  omega
theorem Br (l:List UInt8):dS l<=32:=by
 unfold dS
 repeat(first|omega|split)
theorem pZ:∀l:List UInt8,(bF l).2<=32
 |[]=>by simp[bF]
 |c::l=>by
  simp only[bF]
  split
  ·split
   ·simp
   ·simp only;omega
  ·split
   ·split
    ·simp
    ·simp only;omega
   ·exact Br _
theorem pA {L:List Sgn}{x:Sgn}(h:x∈L)(hx:dP x=false):fP L=.tup [.str [],.int .i64 1]:=by
 unfold fP
 rw[if_neg]
 rw[List.all_eq_true]
 intro ha
 rw[ha x h]at hx
 cases hx
theorem Ew (L:List Sgn)(o0:Own)(hL:L.length<=4096)(hl:∀x,x∈L->x.text.length<=9223372036854775000)(s:St) :
    SRet Tryz.prog 153 [.lst (L.map gw) o0] s (fP L) s:=by
  refine aw Tryz.func153 rfl Tryz.ntmps153 rfl fun Q hQ hQe=>?_
  (repeat'(first|refine Ctl ?_|((with_reducible refine j_ hK ?_);clear hK hE K E)|((with_reducible refine aj (fun h=>?_) (fun h=>?_))<;>(try(exfalso;omega)))|(((with_reducible refine ae fun K E hK hE=>?_))<;>(try simp(disch:=omega) only[go_sem,seval,a_, *]))))
  refine aI (fun n env s'=>∃(i:Nat) (o:Own),i<=L.length/\n+i=L.length/\(∀x,x∈L.take i->dP x=true)/\s'=s.own o 9 1 i/\OwnOk s o i /\
      env 4=.lst (aA ((L.take i).map (·.text))) o/\env 12=.lst (L.map gw) o0/\env 13=.int .i64 L.length/\env 14=.int .i64 i) L.length ?_ ?_
  · exact⟨_,Fg.refl _,0,.full,by omega,by omega,by simp,rfl,rfl,ab,ab,ab,ab⟩
  · rintro n env s' ⟨i,o,hi,hn,hall,rfl,hown,e4,e12,e13,e14⟩
    by_cases hlt:i<L.length
    · have hx:L[i]?=some L[i]:=b_ hlt
      have hmem:L[i]∈L:=List.getElem_mem hlt
      have hxl:=hl _ hmem
      generalize L[i]=x at hx hmem hxl
      have hsx:(L.map gw)[i]?=some (gw x):=by rw[c_,hx];rfl
      have htake:L.take (i+1)=L.take i++[x]:=by rw[List.take_add_one,hx];rfl
      have hst:(aA ((L.take i).map fun x=>x.text)).length=i:=by simp[aA];omega
      have hst2:aA ((L.take (i+1)).map fun x=>x.text)=aA ((L.take i).map fun x=>x.text)++[[.str x.text]]:=by rw[htake];simp[aA]
      have hall2:dP x=true->∀y,y∈L.take (i+1)->dP y=true:=fun h y hy=>by
        rw[htake]at hy
        rcases l_.1 hy with hy|hy
        · exact hall y hy
        · rw[e_]at hy;subst hy;exact h
      clear hall htake
      obtain⟨xk,xt,xa⟩:=x
      cases xt with
      |nil=>
        have hno:fP L=.tup [.str [],.int .i64 1]:=pA hmem rfl
        (repeat'(first|refine Ctl ?_|((with_reducible refine j_ hK ?_);clear hK hE K E)|((with_reducible refine aj (fun h=>?_) (fun h=>?_))<;>(try(exfalso;assumption)))|((first|(with_reducible refine ae fun K E hK hE=>?_)|((with_reducible refine ao (fun b hb=>?_));(repeat(obtain⟨_,hb⟩:=hb))))<;>(try simp(disch:=omega) only[go_sem,seval,gw, *]))))
        all_goals(refine ap nM hQ ?_)
        all_goals refine⟨_,_,?_,?_,rfl,rfl⟩
        · rw[hno];exact Wk.refl _
        · (exact bC)
      |cons c l=>
        by_cases hbs:dP ⟨xk,c::l,xa⟩=true
        · have hb2:=hbs
          simp only[dP,Bool.and_eq_true,decide_eq_true_eq]at hb2
          have hk1:((bF (c::l)).1:Int)=xk:=by rw[hb2.2]
          have hk2:((bF (c::l)).2:Int)=(l.length:Int)+1:=by rw[hb2.2];simp
          clear hb2
          (repeat'(first|refine Ctl ?_|((with_reducible refine j_ hK ?_);clear hK hE K E)|((with_reducible refine aj (fun h=>?_) (fun h=>?_))<;>(try(exfalso;assumption)))|((first|(with_reducible first|refine ae fun K E hK hE=>?_|refine ak vR (Bk _ _ (‹_›) _) ?_)|((with_reducible refine ao (fun b hb=>?_));(repeat(obtain⟨_,hb⟩:=hb)))|((with_reducible refine cq (fun o2 ho=>?_));(try simp(disch:=assumption) only[hst]at ho);(repeat(obtain⟨_,ho⟩:=ho))))<;>(try simp(disch:=first|assumption|omega) only[go_sem,seval,gw, *]))))
          all_goals exact⟨_,w_ (Fg.refl _) (by rw[aR];exact⟨‹_›,‹_›⟩),n - 1,by omega,i+1,o2,by omega,by omega,hall2 hbs,rfl,‹_›,ab,ab,ab,ab⟩
        · have hno:fP L=.tup [.str [],.int .i64 1]:=pA hmem (by simpa using hbs)
          have hb2:¬ (((bF (c::l)).1:Int)=xk/\((bF (c::l)).2:Int)=(l.length:Int)+1):=by
            rintro⟨h1,h2⟩
            apply hbs
            simp only[dP,Bool.and_eq_true,decide_eq_true_eq,ne_eq,reduceCtorEq,not_false_eq_true,true_and]
            exact Prod.ext (by omega) (by simp;omega)
          (repeat'(first|refine Ctl ?_|((with_reducible refine j_ hK ?_);clear hK hE K E)|((with_reducible refine aj (fun h=>?_) (fun h=>?_))<;>(try(exfalso;assumption)))|((first|(with_reducible first|refine ae fun K E hK hE=>?_|refine ak vR (Bk _ _ (‹_›) _) ?_)|((with_reducible refine ao (fun b hb=>?_));(repeat(obtain⟨_,hb⟩:=hb)))|((with_reducible refine cq (fun o2 ho=>?_));(try simp(disch:=assumption) only[hst]at ho);(repeat(obtain⟨_,ho⟩:=ho)))|((with_reducible refine dy (fun h=>?_) (fun h=>?_))))<;>(try simp(disch:=first|assumption|omega) only[go_sem,seval,gw, *]))))
          all_goals first
            |(exfalso;grind;done)
            | ((first | refine ap nM hQ ?_ | refine en nM hQ ?_ | refine jm hQ ?_)
               refine⟨_,_,?_,?_,rfl,rfl⟩
               · rw[hno];exact Wk.refl _
               · (exact bC))
    · have hiL:i=L.length:=by omega
      have htk:L.take i=L:=by rw[hiL];exact f_
      rw[htk]at hall
      have hjl:(Lib.join ((L.take i).map fun x=>x.text) [32]).length<=140737488355328:=by
        rw[htk]
        have h1:=od 32 [32] (L.map fun x=>x.text) (fun t ht=>by
          obtain⟨x,hx,rfl⟩:=E_.1 ht
          have:=hall x hx
          simp only[dP,Bool.and_eq_true,decide_eq_true_eq]at this
          have h2:=pZ x.text
          rw[this.2]at h2
          exact h2)
        simp only[a_,List.length_cons,List.length_nil]at h1
        have:L.length*(32+(0+1))<=4096*33:=Nat.mul_le_mul hL (by omega)
        omega
      have hjn:((L.take i).map fun x=>x.text).length<=140737488355328:=by rw[htk,a_];omega
      have hres:fP L=.tup [.str (Lib.join ((L.take i).map fun x=>x.text) [32]),.int .i64 0]:=by
        unfold fP
        rw[if_pos (List.all_eq_true.2 hall),htk]
      clear hall htk hiL
      (repeat'(first|refine Ctl ?_|((with_reducible refine j_ hK ?_);clear hK hE K E)|((with_reducible refine aj (fun h=>?_) (fun h=>?_))<;>(try(exfalso;assumption)))|(((with_reducible first|refine ae fun K E hK hE=>?_|refine ak rE (rY _ _ _ (‹_›) (‹_›) _) ?_))<;>(try simp(disch:=omega) only[go_sem,seval, *]))))
      all_goals(refine ap nM hQ ?_)
      all_goals refine⟨_,_,?_,?_,rfl,rfl⟩
      · rw[hres];exact Wk.refl _
      · (exact bC)
abbrev Wb (s:St)(b:Nat)(ad:VV)(bs:List UInt8)(o:Own):St:=s.set b (.obj 209 [ad,.lst (bi bs) o])
theorem Jp:BM Tryz.prog 207 224 209 2 0=true:=by kernel_rfl
theorem BN:BM Tryz.prog 224 207 209 2 0=true:=by kernel_rfl
theorem C1 (s:St)(b:Nat)(ad:VV)(bs:List UInt8)(o:Own)(had:ad=.raw (.pointer none)\/ad=.ptr b 0) :
  SRet Tryz.prog 142 [.ptr b 0] (Wb s b ad bs o) (.tup []) (Wb s b (.ptr b 0) bs o):=by
 refine aw Tryz.func142 rfl Tryz.ntmps142 rfl fun Q hQ hQe=>?_
 rcases had with rfl|rfl
 ·(repeat'(first|refine Ctl ?_|((with_reducible refine j_ hK ?_);clear hK hE K E)|((with_reducible refine aj (fun h=>?_) (fun h=>?_))<;>(try(exfalso;assumption)))|(((with_reducible first|refine ae fun K E hK hE=>?_|refine tX (rx _ _) ?_))<;>(try simp(disch:=omega) only[go_sem,seval,Wb,List.length_cons,List.length_nil,Nat.zero_add,Nat.reduceAdd,Jp,BN, *]))))
  all_goals(refine en u4 hQ ?_)
  all_goals(refine⟨_,_,Wk.of_eq ?_,?_,rfl,rfl⟩)
  all_goals first|rfl|exact Fg.refl _
 ·(repeat'(first|refine Ctl ?_|((with_reducible refine j_ hK ?_);clear hK hE K E)|((with_reducible refine aj (fun h=>?_) (fun h=>?_))<;>(try(exfalso;assumption)))|(((with_reducible refine ae fun K E hK hE=>?_))<;>(try simp(disch:=omega) only[go_sem,seval,Wb,List.length_cons,List.length_nil,Nat.zero_add,Nat.reduceAdd, *]))))
  all_goals(refine en u4 hQ ?_)
  all_goals(refine⟨_,_,Wk.of_eq ?_,?_,rfl,rfl⟩)
  all_goals first|rfl|exact Fg.refl _
theorem CZ (s:St)(b:Nat)(ad:VV)(bs:List UInt8)(o:Own)(t:List UInt8)(had:ad=.raw (.pointer none)\/ad=.ptr b 0)(ho:OwnOk s o bs.length)(hn:ay o b)(hl:bs.length+t.length<=140737488355328) :
  SCalls Tryz.prog 133 [.ptr b 0,.str t] (Wb (s.own o 5 1 bs.length) b ad bs o) fun e u=>∃o',e=.ret (.tup [.int .i64 (t.length:Int),.raw .nilIface]) /\
   u=Wb (s.own o' 5 1 (bs++t).length) b (.ptr b 0) (bs++t) o'/\(OwnOk s o' (bs++t).length/\ay o' b):=by
 refine aw Tryz.func133 rfl Tryz.ntmps133 rfl fun Q hQ hQe=>?_
 have hb1:(bi bs).length=bs.length:=by simp[bi]
 have hb2:(bi t).length=t.length:=by simp[bi]
 have hby:∀y,y∈bi t->y.length=1:=fun y hy=>by simp only[bi,E_]at hy;obtain⟨_,_,rfl⟩:=hy;rfl
 (repeat'(first|refine Ctl ?_|((with_reducible refine j_ hK ?_);clear hK hE K E)|((first|(with_reducible first|refine ae fun K E hK hE=>?_|refine ak Jw (C1 _ _ _ _ _ (‹_›)) ?_)|((with_reducible refine cq (fun o2 ho=>?_));(try simp(disch:=assumption) only[hb1,hb2]at ho);(repeat(obtain⟨_,ho⟩:=ho))))<;>(try simp(disch:=first|assumption|omega) only[go_sem,seval,Wb,List.length_cons,List.length_nil, *]))))
 all_goals(refine ap AV hQ ?_)
 all_goals exact⟨_,_,Wk.refl _,Fg.refl _,o2,rfl,by simp[Wb,bi,d_],by simpa using ho,‹_›⟩
theorem JN (s:St)(b:Nat)(ad:VV)(bs:List UInt8)(o:Own)(ho:OwnOk s o bs.length)(hn:ay o b)(hne:o=.full\/bs≠[]) :
  SRet Tryz.prog 137 [.ptr b 0] (Wb (s.own o 5 1 bs.length) b ad bs o) (.str bs) (Wb (s.own o 5 1 bs.length) b ad bs o):=by
 intro w0 G w vs hS hA
 obtain⟨u,rfl,hu⟩:=Ar hA
 cases hu
 have hob:=hS.ok b
 simp only[Wb,q_]at hob
 obtain⟨hB,hnK,c,hh,hcs,hx⟩:=hob
 obtain⟨_,v,hv,hr⟩:=hx 1 (.lst (bi bs) o) rfl
 have hex:∀l:List UInt8,R G (.string ⟨l.toArray⟩) (.str l):=fun l=>by simpa using R.str (G:=G) l.toArray
 generalize hys:bi bs=ys at hr
 cases hr with
 |emp a cap o ho'=>
  have hb0:bs=[]:=by cases bs<;>simp_all [bi]
  subst hb0
  rcases ho' with rfl|⟨rfl,rfl,rfl⟩
  ·exact ho.elim
  ·refine Calls.mono (ER b c _ w hh hv) fun e w' h=>?_
   obtain⟨rfl,rfl⟩:=h
   exact⟨G,_,.ret (.str []),Gh.le.refl G,hS.drew,hex [],rfl,rfl⟩
 |lst g off len cap sz xs' o f hlen hc hz h1 hK hR ho'=>
  rcases ho' with rfl|⟨rfl,_,hpos⟩|⟨rfl,rfl,hcap⟩
  ·exact ho.elim
  ·simp only[OwnOk]at ho
   have:ys.length=bs.length:=by rw[<- hys];simp[bi]
   omega
  ·have hlb:ys.length=bs.length:=by rw[<- hys];simp[bi]
   subst hys
   have hgb:¬ b=g:=hn
   have hsg:(Wb (s.own (.at_ g) 5 1 bs.length) b ad bs (.at_ g)) g=.vec 5 1 bs.length:=by
    show ((s.set g (.vec 5 1 bs.length)).set b _) g=_
    rw[k_ _ _ (Ne.symm hgb),q_]
   have hog:=hS.ok g
   rw[hsg]at hog
   obtain⟨hBg,cg,capg,fz,hcapg,hhg,hfz,hcsg,hncg,hcmg,hKng⟩:=hog
   rw[hcap]at hcapg
   injection hcapg with hcapg
   simp only[Prod.mk.injEq]at hcapg
   obtain⟨rfl,rfl⟩:=hcapg
   have hlen2:len=bs.length:=by omega
   subst hlen2
   by_cases h0:bs=[]
   ·subst h0
    rcases hne with hne|hne
    ·cases hne
    ·exact absurd rfl hne
   ·have hpos:0<bs.length:=List.length_pos_iff.2 h0
    refine Calls.mono (JO b g cap c bs _ cg fz w hh hv hhg (by omega) (by omega) h0 (by simp only[maxLen]at hcmg;omega) ?_) fun e w' h=>?_
    ·intro j x hj
     have hlt:j<bs.length:=(n_.1 hj).1
     have h2:=hS.K _ _ _ (hK j 0 hlt (by omega))
     have h3:=hR j 0 [.int .u8 (x.toNat:Int)] (.int .u8 (x.toNat:Int)) (by simp[bi,hj]) rfl
     generalize f j 0=v at h2 h3
     cases h3
     simpa using h2
    ·obtain⟨rfl,rfl⟩:=h
     exact⟨G,_,.ret (.str bs),Gh.le.refl G,hS.drew.freeze hsg (by omega),hex bs,rfl,rfl⟩
def NP (r:List UInt8):Prop:=∀c t,r=c::t->cu c=false
theorem NP.nil:NP []:=fun c t h=>by cases h
theorem NP.cons {c:UInt8}{t:List UInt8}(h:cu c=false):NP (c::t):=fun c' t' e=>by injection e with e1 e2;subst e1;exact h
def Txt (A:List Sgn)(T:List (List UInt8)):Prop:=A.map (·.text)=T/\∀x,x∈A->dP x=true
def LexE (b:List UInt8)(T:List (List UInt8)):Prop:=∀(r:List UInt8) (a:Nat) (out L:List Sgn),eY (b++r) a out=.ok L->∃(A:List Sgn) (a':Nat),Txt A T/\eY r a' (out++A)=.ok L
def LexN (b:List UInt8)(T:List (List UInt8)):Prop:=∀(r:List UInt8) (a:Nat) (out L:List Sgn),NP r->eY (b++r) a out=.ok L->∃(A:List Sgn) (a':Nat),Txt A T/\eY r a' (out++A)=.ok L
theorem LexE.n {b:List UInt8}{T:List (List UInt8)}(h:LexE b T):LexN b T:=fun r a out L _ e=>h r a out L e
theorem LexE.nil:LexE [] []:=fun r a out L h=>⟨[],a,⟨rfl,fun x hx=>by cases hx⟩,by simpa using h⟩
theorem xp {t r:List UInt8}{k:Nat}{a:Nat}{out L:List Sgn}(ht:t≠[])(hb:∀c s,t=c::s->bT c=false/\¬ c.toNat=35)(ho:bF (t++r)=(k,t.length))(ho2:bF t=(k,t.length))(e:eY (t++r) a out=.ok L) :
  ∃(A:List Sgn) (a':Nat),Txt A [t]/\eY r a' (out++A)=.ok L:=by
 cases t with
 |nil=>exact absurd rfl ht
 |cons c s=>
  obtain⟨h1,h2⟩:=hb c s rfl
  rw[List.cons_append]at ho e
  rw[lH h1 h2,ho]at e
  split at e
  ·cases e
  ·split at e
   ·cases e
   ·refine⟨[⟨k,c::s,a⟩],a+(c::s).length,⟨rfl,fun x hx=>?_⟩,?_⟩
    ·simp only[e_]at hx
     subst hx
     simp[dP,ho2]
    ·rw[<- List.cons_append,List.drop_left' rfl,List.take_left' rfl]at e
     exact e
theorem C8 {r:List UInt8}(h:NP r):bI cu r=0:=by
 cases r with
 |nil=>rfl
 |cons c s=>rw[b0,h c s rfl];rfl
theorem pI:∀(t r:List UInt8),bI cu t=t.length->NP r->bI cu (t++r)=t.length
 |[],r,_,h=>C8 h
 |c::t,r,h,hr=>by
  rw[List.cons_append,b0]
  rw[b0]at h
  cases hc:cu c with
  |false=>rw[hc]at h;simp at h
  |true=>
   rw[hc]at h
   simp only[if_true,List.length_cons]at h ⊢
   have:=pI t r (by omega) hr
   omega
theorem Bp {t:List UInt8}(h:dP ⟨1,t,0⟩=true):∃c s,t=c::s/\df c=false/\cu c=true/\bI cu (c::s)=(c::s).length/\¬ 32<(c::s).length:=by
 simp only[dP,Bool.and_eq_true,decide_eq_true_eq]at h
 obtain⟨h1,h2⟩:=h
 cases t with
 |nil=>exact absurd rfl h1
 |cons c s=>
  refine⟨c,s,rfl,?_⟩
  simp only[bF]at h2
  split at h2
  ·split at h2<;>simp at h2
  ·rename_i hd
   split at h2
   ·rename_i hp
    split at h2
    ·simp at h2
    ·rename_i h32
     injection h2 with _ h3
     exact⟨by simpa using hd,hp,h3,by omega⟩
   ·simp at h2
theorem nT {c:UInt8}(h:cu c=true):bT c=false/\¬ c.toNat=35:=by
 constructor
 ·rw[gf,decide_eq_false_iff_not]
  rintro(rfl|rfl|rfl|rfl)<;>simp[cu,df]at h
 ·intro e
  have:c=35:=UInt8.toNat_inj.1 e
  subst this
  simp[cu,df]at h
theorem LexN.name {t:List UInt8}(h:dP ⟨1,t,0⟩=true):LexN t [t]:=fun r a out L hr e=>by
 obtain⟨c,s,rfl,hd,hp,hn,h32⟩:=Bp h
 have hn2:=pI (c::s) r hn hr
 rw[List.cons_append]at hn2
 refine xp (k:=1) (by simp) (fun c' s' e=>?_) ?_ ?_ e
 ·injection e with e1 e2;subst e1;exact nT hp
 ·rw[List.cons_append]
  simp only[bF,hd,hp,if_true,Bool.false_eq_true,if_false,hn2,if_neg h32]
 ·simp only[bF,hd,hp,if_true,Bool.false_eq_true,if_false,hn,if_neg h32]
def In (e:Nat)(L:List Sgn):Prop:=∀y,y∈L->y.at_<=e
theorem In.tail {e:Nat}{L:List Sgn}(h:In e L):In e L.tail:=fun y hy=>h y (List.mem_of_mem_tail hy)
def MP (E:Nat):Except (Nat×Nat) (List Sgn)->Prop
 |.ok L=>In E L
 |.error q=>q.1<=E
theorem vx (E:Nat):∀(f:Nat) (l:List UInt8) (a:Nat) (out:List Sgn),a+l.length<=E->In E out->MP E (eH f l a out)
 |0,l,a,out,_,h=>h
 |f+1,l,a,out,ha,h=>by
  simp only[eH]
  have hb:=d7 bT l
  generalize hd:l.drop (bI bT l)=d
  have hdl:d.length=l.length - bI bT l:=by rw[<- hd,D_]
  cases d with
  |nil=>exact h
  |cons c r=>
   have h1:=d7 ce (c::r)
   have h2:=jv c r
   simp only
   split
   ·exact vx E f _ _ _ (by rw[D_];omega) h
   ·split
    ·show a+bI bT l<=E
     omega
    ·split
     ·show a+bI bT l<=E
      omega
     ·refine vx E f _ _ _ (by rw[D_];omega) fun y hy=>?_
      rcases l_.1 hy with hy|hy
      ·exact h y hy
      ·simp only[e_]at hy
       subst hy
       show a+bI bT l<=E
       omega
def Sm (L M:List Sgn):Prop:=L.map (fun x=>(x.kind,x.text))=M.map (fun x=>(x.kind,x.text))
theorem Sm.len {L M:List Sgn}(h:Sm L M):L.length=M.length:=by have:=congrArg List.length h;simpa using this
theorem Sm.tail {L M:List Sgn}(h:Sm L M):Sm L.tail M.tail:=by
 unfold Sm at h ⊢
 rw[List.map_tail,List.map_tail,h]
def Bl (r:List UInt8):Prop:=∀c t,r=c::t->bT c=true
theorem Bl.nil:Bl []:=fun c t h=>by cases h
theorem Bl.cons {c:UInt8}{t:List UInt8}(h:bT c=true):Bl (c::t):=fun c' t' e=>by injection e with e1 e2;subst e1;exact h
theorem lL {c:UInt8}(h:bT c=true):df c=false/\cu c=false/\c≠45/\c≠58/\c≠61:=by
 rw[gf,decide_eq_true_eq]at h
 rcases h with rfl|rfl|rfl|rfl<;>decide
theorem lr {p:UInt8->Bool}{r r':List UInt8}(h':∀c s,r'=c::s->p c=false):∀t:List UInt8,bI p (t++r)=t.length->bI p (t++r')=t.length
 |[],_=>by
  cases r' with
  |nil=>rfl
  |cons c s=>rw[List.nil_append,b0,h' c s rfl];rfl
 |c::t,h=>by
  rw[List.cons_append,b0]at h ⊢
  cases hc:p c with
  |false=>rw[hc]at h;simp at h
  |true=>
   rw[hc]at h
   simp only[if_true,List.length_cons]at h ⊢
   have:=lr (r:=r) h' t (by omega)
   omega
theorem H5 {a b x:UInt8}{r:List UInt8}:List.isPrefixOf [a,b] (x::r)=(x == a && (match r with|y::_=>y == b|[]=>false)):=by
 cases r<;>simp[List.isPrefixOf,Bool.beq_comm]
theorem vt {c:UInt8}{s r r':List UInt8}(hb:Bl r')(h:dS (c::s++r)=(c::s).length):dS (c::s++r')=(c::s).length:=by
 cases s with
 |nil=>
  cases r' with
  |nil=>
   simp only[dS,List.cons_append,List.nil_append,H5]at h ⊢
   cases r with
   |nil=>simpa using h
   |cons y r=>
    simp only at h
    split at h
    ·simp at h
    ·split at h
     ·simp at h
     ·split at h
      ·simp at h
      ·simpa using h
  |cons y' r'=>
   obtain⟨_,_,h1,h2,h3⟩:=lL (hb y' r' rfl)
   simp only[dS,List.cons_append,List.nil_append,H5,beq_eq_false_iff_ne.2 h1,beq_eq_false_iff_ne.2 h2,beq_eq_false_iff_ne.2 h3,Bool.and_false]at h ⊢
   cases r with
   |nil=>simpa using h
   |cons y r=>
    simp only at h
    split at h
    ·simp at h
    ·split at h
     ·simp at h
     ·split at h
      ·simp at h
      ·simpa using h
 |cons d s=>
  simp only[dS,List.cons_append,H5,List.length_cons]at h ⊢
  split at h
  ·rename_i h1;rw[if_pos h1];exact h
  ·rename_i h1;rw[if_neg h1]
   split at h
   ·rename_i h2;rw[if_pos h2];exact h
   ·rename_i h2;rw[if_neg h2]
    split at h
    ·rename_i h3;rw[if_pos h3];exact h
    ·split at h<;>omega
theorem za {t r r':List UInt8}{k:Nat}(ht:t≠[])(hb:Bl r')(h:bF (t++r)=(k,t.length)):bF (t++r')=(k,t.length):=by
 cases t with
 |nil=>exact absurd rfl ht
 |cons c s=>
  have e1:bI df (c::s++r)=(c::s).length->bI df (c::s++r')=(c::s).length:=lr (fun c t e=>(lL (hb c t e)).1) _
  have e2:bI cu (c::s++r)=(c::s).length->bI cu (c::s++r')=(c::s).length:=lr (fun c t e=>(lL (hb c t e)).2.1) _
  have e3:dS (c::s++r)=(c::s).length->dS (c::s++r')=(c::s).length:=vt hb
  rw[List.cons_append]at h e1 e2 e3 ⊢
  simp only[bF]at h ⊢
  rw[List.cons_append]at e1 e2 e3
  split at h
  ·rename_i hd
   rw[if_pos hd]
   split at h
   ·injection h with _ h;simp at h
   ·rename_i hn
    injection h with h1 h2
    have e:=e1 h2
    rw[e,if_neg (by rw[<- h2];exact hn),h1]
  ·rename_i hd
   rw[if_neg hd]
   split at h
   ·rename_i hp
    rw[if_pos hp]
    split at h
    ·injection h with _ h;simp at h
    ·rename_i hn
     injection h with h1 h2
     have e:=e2 h2
     rw[e,if_neg (by rw[<- h2];exact hn),h1]
   ·rename_i hp
    rw[if_neg hp]
    injection h with h1 h2
    rw[e3 h2,h1]
def Gd (x:Sgn):Prop:=x.text≠[]/\bF x.text=(x.kind,x.text.length)/\∀c s,x.text=c::s->bT c=false/\¬ c.toNat=35
def pi (L:List Sgn):Nat:=(L.map fun x=>x.text.length).sum
theorem Ae (A B:List Sgn):pi (A++B)=pi A+pi B:=by simp[pi]
theorem I5 (m:Nat):∀(l:List UInt8) (a:Nat) (out L:List Sgn),l.length<=m->eY l a out=.ok L->(∀x,x∈out->Gd x)->out.length<=4096->(∀x,x∈L->Gd x)/\pi L<=pi out+l.length/\L.length<=4096:=by
 induction m with
 |zero=>
  intro l a out L hm h ho hl
  have:l=[]:=t_ (by omega)
  subst this
  rw[nZ]at h;cases h
  exact⟨ho,by omega,hl⟩
 |succ m ih=>
  intro l a out L hm h ho hl
  cases l with
  |nil=>rw[nZ]at h;cases h;exact⟨ho,by omega,hl⟩
  |cons c r=>
   simp only[List.length_cons]at hm ⊢
   cases hb:bT c with
   |true=>
    rw[oa hb]at h
    obtain⟨h1,h2,h3⟩:=ih r _ _ _ (by omega) h ho hl
    exact⟨h1,by omega,h3⟩
   |false=>
    by_cases h35:c.toNat=35
    ·rw[qa h35]at h
     have hn:1<=bI ce (c::r):=by rw[b0,if_pos (by simp[ce];omega)];omega
     obtain⟨h1,h2,h3⟩:=ih _ _ _ _ (by rw[D_,List.length_cons];omega) h ho hl
     rw[D_,List.length_cons]at h2
     exact⟨h1,by omega,h3⟩
    ·rw[lH hb h35]at h
     have hle:=jv c r
     rw[List.length_cons]at hle
     generalize he:bF (c::r)=q at h hle
     obtain⟨k,n⟩:=q
     simp only at h hle
     split at h
     ·cases h
     ·split at h
      ·cases h
      ·rename_i hn hf
       have hne:(c::r).take n≠[]:=by
        cases n with
        |zero=>exact absurd rfl hn
        |succ n=>simp
       have hlen:((c::r).take n).length=n:=by rw[A_,List.length_cons];omega
       have hg:Gd ⟨k,(c::r).take n,a⟩:=by
        refine⟨hne,?_,fun c' s' e=>?_⟩
        ·have e1:bF ((c::r).take n++(c::r).drop n)=(k,((c::r).take n).length):=by rw[List.take_append_drop,hlen];exact he
         have:=za hne Bl.nil e1
         rw[List.append_nil]at this;exact this
        ·cases n with
         |zero=>exact absurd rfl hn
         |succ n=>
          simp only[List.take_succ_cons]at e
          injection e with e1 e2;subst e1;exact⟨hb,h35⟩
       obtain⟨h1,h2,h3⟩:=ih _ _ _ _ (by rw[D_,List.length_cons];omega) h (fun x hx=>by
        rcases l_.1 hx with hx|hx
        ·exact ho x hx
        ·simp only[e_]at hx;subst hx;exact hg) (by simp;omega)
       refine⟨h1,?_,h3⟩
       rw[Ae,D_,List.length_cons]at h2
       have:pi [⟨k,(c::r).take n,a⟩]=n:=by simp only[pi,List.map_cons,List.map_nil,List.sum_cons,List.sum_nil,hlen];rfl
       rw[this]at h2
       omega
theorem DY {l:List UInt8}{L:List Sgn}(h:bG l=.ok L):(∀x,x∈L->Gd x)/\pi L<=l.length/\L.length<=4096:=by
 unfold bG at h
 split at h
 ·cases h
 ·have:=I5 l.length l 0 [] L (Nat.le_refl _) h (fun x hx=>by cases hx) (by simp)
  simpa [pi]using this
end Go.Proofs.YteldpmgepfaiiaaGreatDoor
