/- Walks of functions that the claim reaches, and plain facts of them. Conditions: those in the statements. -/
import Derived.Test.YtgdbgfjhenobdaaGreatDoorJmGpj
import Derived.Test.YtgdbgfjhenobdaaGreatDoorJmLexj
import Derived.Shelf.Strings.BuilderF
set_option linter.unusedSimpArgs false
set_option linter.unusedVariables false
set_option maxRecDepth 100000
namespace Go.Proofs.YtgdbgfjhenobdaaGreatDoor
open Go.RowKit
theorem ext_noEscape (x:VV)(s:St):SExt Tryz.prog 199 [x] s fun e t=>e=.ret x∧t=s:=by
 intro w0 G w vs hS hvs
 obtain⟨v,rfl,hv⟩:=rlist1 hvs
 refine⟨v,w,G,s,x,?_,Gh.le.refl G,hS,hv,rfl,rfl⟩
 have hf:=Tryz.func199
 have hn:(Tryz.f199.name == "runtime.NumGoroutine")=false:=by kernel_rfl
 have hx:Extern.findNext Tryz.f199=none:=by kernel_rfl
 have hy:Extern.find Tryz.f199=some Extern.AbiNoEscape.same:=by kernel_rfl
 have hb:Tryz.f199.body.isNone=true:=by kernel_rfl
 unfold callFunc
 simp only[Sem.run_bind,run_program,Result.andThen_ok,hf,hn,hb,hx,hy,Bool.false_eq_true,if_false,if_true,run_mark,Lib.run_noEscape,Sem.run_pure]
theorem cv_ptr:cv (.pointer none)=.raw (.pointer none):=rfl
theorem nil_ptr:nilB .ptr (.raw (.pointer none)) (.raw (.pointer none))=some true:=rfl
attribute [go_sem] cv_ptr nil_ptr
abbrev Wr (s:St)(b:Nat)(ad:VV)(bs:List UInt8)(o:Own)(d:Int):St:=s.set b (.obj 229 [ad,.lst (bytesV bs) o,.int .i64 d])
theorem cv_to:cvok Tryz.prog 225 259 229 3 0=true:=by kernel_rfl
theorem cv_back:cvok Tryz.prog 259 225 229 3 0=true:=by kernel_rfl
theorem Bcheck_S (s:St)(b:Nat)(ad:VV)(bs:List UInt8)(o:Own)(d:Int)(had:ad=.raw (.pointer none)∨ad=.ptr b 0) :
  SRet Tryz.prog 186 [.ptr b 0] (Wr s b ad bs o d) (.tup []) (Wr s b (.ptr b 0) bs o d):=by
 refine G_enter Tryz.func186 rfl Tryz.ntmps186 rfl fun Q hQ hQe=>?_
 rcases had with rfl|rfl
 ·(repeat'(first|refine Ctl ?_|((with_reducible refine Kof.use hK ?_);clear hK hE K E)|((with_reducible refine W_cond (fun h=>?_) (fun h=>?_))<;>(try(exfalso;assumption)))|(((with_reducible first|refine G_region fun K E hK hE=>?_|refine call_ext (ext_noEscape _ _) ?_))<;>(try simp(disch:=omega) only[go_sem,seval,Wr,List.length_cons,List.length_nil,Nat.zero_add,Nat.reduceAdd,cv_to,cv_back, *]))))
  all_goals(refine W_norm res186 hQ ?_)
  all_goals(refine⟨_,_,Wk.of_eq ?_,?_,rfl,rfl⟩)
  all_goals first|rfl|exact Fg.refl _
 ·(repeat'(first|refine Ctl ?_|((with_reducible refine Kof.use hK ?_);clear hK hE K E)|((with_reducible refine W_cond (fun h=>?_) (fun h=>?_))<;>(try(exfalso;assumption)))|(((with_reducible refine G_region fun K E hK hE=>?_))<;>(try simp(disch:=omega) only[go_sem,seval,Wr,List.length_cons,List.length_nil,Nat.zero_add,Nat.reduceAdd,cv_to,cv_back, *]))))
  all_goals(refine W_norm res186 hQ ?_)
  all_goals(refine⟨_,_,Wk.of_eq ?_,?_,rfl,rfl⟩)
  all_goals first|rfl|exact Fg.refl _
theorem Bwrite_S (s:St)(b:Nat)(ad:VV)(bs:List UInt8)(o:Own)(d:Int)(t:List UInt8)(had:ad=.raw (.pointer none)∨ad=.ptr b 0)(ho:OwnOk s o bs.length)(hn:NotOwn o b)(hl:bs.length+t.length≤140737488355328) :
  SCalls Tryz.prog 175 [.ptr b 0,.str t] (Wr (s.own o 5 1 bs.length) b ad bs o d) fun e u=>∃o',e=.ret (.tup [.int .i64 (t.length:Int),.raw .nilIface]) ∧
   u=Wr (s.own o' 5 1 (bs++t).length) b (.ptr b 0) (bs++t) o' d∧(OwnOk s o' (bs++t).length∧NotOwn o' b):=by
 refine G_enter Tryz.func175 rfl Tryz.ntmps175 rfl fun Q hQ hQe=>?_
 have hb1:(bytesV bs).length=bs.length:=by simp[bytesV]
 have hb2:(bytesV t).length=t.length:=by simp[bytesV]
 have hby:∀y,y∈bytesV t→y.length=1:=fun y hy=>by simp only[bytesV,List.mem_map]at hy;obtain⟨_,_,rfl⟩:=hy;rfl
 (repeat'(first|refine Ctl ?_|((with_reducible refine Kof.use hK ?_);clear hK hE K E)|((first|(with_reducible first|refine G_region fun K E hK hE=>?_|refine call_ret can186 (Bcheck_S _ _ _ _ _ _ (by assumption)) ?_)|((with_reducible refine W_app (fun o2 ho=>?_));(try simp(disch:=assumption) only[disown_set,disown_own,ownok_o,ownok_m,List.length_map,List.length_cons,List.length_nil,Nat.zero_add,Wr,hb1,hb2,List.length_cons,List.length_nil]at ho);(repeat(obtain⟨_,ho⟩:=ho))))<;>(try simp(disch:=first|assumption|omega) only[go_sem,seval,Wr,hb1,hb2,List.length_cons,List.length_nil, *]))))
 all_goals(refine W_ret res175 hQ ?_)
 all_goals exact⟨_,_,Wk.refl _,Fg.refl _,o2,rfl,by simp[Wr,bytesV,List.length_append],by simpa using ho,by assumption⟩
theorem cell?_freeze (w:World)(a p:Addr)(n:Nat):(w.freeze a n).cell? p=w.cell? p:=by
 unfold World.freeze
 split
 ·rfl
 ·by_cases h:a.block=p.block
  ·simp only[World.cell?,Array.getElem?_modify,h,if_true]
   cases w.heap[p.block]? with
   |none=>rfl
   |some o=>cases o<;>rfl
  ·simp only[World.cell?,Array.getElem?_modify,h,if_false]
theorem Sim.freeze {w0 w:World}{G:Gh}{s:St}(hS:Sim w0 G w s){g k n sz:Nat}{T:TypeId}(hg:s g=.vec T sz n)(hk:k≤n * sz):Sim w0 G (w.freeze ⟨g,0,none⟩ k) s:=by
 have ho:=hS.ok g
 rw[hg]at ho
 obtain⟨hB,c,cap,fz,hcap,hh,hfz,hcs,hnc,hcm,hKn⟩:=ho
 have hsz:(w.freeze ⟨g,0,none⟩ k).heap.size=w.heap.size:=by unfold World.freeze;split<;>simp
 have hoth:∀b,b≠g→(w.freeze ⟨g,0,none⟩ k).heap[b]?=w.heap[b]?:=fun b hb=>by
  unfold World.freeze
  split
  ·rfl
  ·simp only[Array.getElem?_modify]
   rw[if_neg (by omega)]
 refine⟨Lib.below_freeze hS.below hB k,fun b i v hv=>?_,fun b q hq=>by rw[hsz];exact hS.cap b q hq,fun b=>?_,hS.gl,hS.rows.keep' (Gh.le.refl G) (by rw[hsz];exact Nat.le_refl _) (fun b _ hb=>⟨hb,hoth b (by rintro rfl;rw[hg]at hb;cases hb),fun _=>rfl⟩) (fun x T xs rs hx=>⟨hx,hoth x (by rintro rfl;rw[hg]at hx;cases hx)⟩)⟩
 ·rw[cell?_freeze];exact hS.K b i v hv
 ·by_cases hb:b=g
  ·subst hb
   rw[hg]
   by_cases hk0:k=0
   ·subst hk0
    exact⟨hB,c,cap,fz,hcap,by unfold World.freeze;rw[if_pos rfl];exact hh,hfz,hcs,hnc,hcm,hKn⟩
   ·obtain⟨lo,hi⟩:=fz
    refine⟨hB,c,cap,_,hcap,by unfold World.freeze;rw[if_neg hk0];simp only[Array.getElem?_modify,if_true,hh,Option.map_some];rfl,?_,hcs,hnc,hcm,hKn⟩
    simp only at hfz ⊢
    split
    ·simpa using hk
    ·simp only;omega
  ·exact(hS.ok b).keep (hoth b hb) (Gh.le.refl G) (fun _=>rfl)
set_option maxHeartbeats 2000000 in
theorem Bstr_w (b g cap:Nat)(cs:Array Value)(l:List UInt8)(T:TypeId)(cur:Array Value)(fz:Nat×Nat)(w:World)(hbk:w.heap[b]?=some (.cells cs T (0,0)))(h1:cs[1]?=some (.slice (some ⟨g,0,none⟩) l.length cap))
  (hg:w.heap[g]?=some (.cells cur 5 fz)) (hcap:cap≠0) (hcur:l.length≤cur.size) (h0:l≠[]) (h63:l.length≤9223372036854775807) (hcells:∀j x,l[j]?=some x→w.cell? ⟨g,j,none⟩=some (.int .u8 x.toNat)) :
  Calls Tryz.prog 164 #[.pointer (some ⟨b,0,none⟩)] w fun e w'=>e=.returned (.string ⟨l.toArray⟩)∧w'=w.drew.freeze ⟨g,0,none⟩ l.length:=by
 have c1:w.drew.cell? ⟨b,1,none⟩=some (.slice (some ⟨g,0,none⟩) l.length cap):=by
  have:w.drew.heap[b]?=some (.cells cs T (0,0)):=hbk
  rw[Lib.cell_of_heap this];exact h1
 have hSD:(Builtin.unsafeSliceData_ #[55] 235 #[.slice (some ⟨g,0,none⟩) l.length cap]).run Tryz.prog w.drew=.ok (.pointer (some ⟨g,0,none⟩)) w.drew:=
  Lib.run_unsafeSliceData_row _ _ _ _ _ _ hcap
 have hUS:(Builtin.unsafeString_ #[235,3] 9 #[.pointer (some ⟨g,0,none⟩),.int .i64 l.length]).run Tryz.prog w.drew=.ok (.string ⟨l.toArray⟩) (w.drew.freeze ⟨g,0,none⟩ l.length):=by
  refine Lib.run_unsafeString_row w.drew 235 3 9 5 Tryz.underlying235 (by kernel_rfl) g cur.size (by have hg':w.drew.heap[g]?=some (.cells cur 5 fz):=hg;simp[World.shape?,hg']) l h0 hcur h63 ?_
  intro j x hx
  rw[add_none,Nat.zero_add]
  exact hcells j x hx
 have mixed:Tryz.prog.follows .mixedOrders=true:=by kernel_rfl
 have t70:=Tryz.underlying227;have a70:=Tryz.isAgg227;have z70:=Tryz.sizeOf227;have v70:=Tryz.zeroValue227;have u70:=run_underlying Tryz.underlying227
 have t67:=Tryz.underlying225;have a67:=Tryz.isAgg225;have z67:=Tryz.sizeOf225;have v67:=Tryz.zeroValue225;have u67:=run_underlying Tryz.underlying225
 have t68:=Tryz.underlying55;have a68:=Tryz.isAgg55;have z68:=Tryz.sizeOf55;have v68:=Tryz.zeroValue55;have u68:=run_underlying Tryz.underlying55
 have t106:=Tryz.underlying235;have a106:=Tryz.isAgg235;have z106:=Tryz.sizeOf235;have v106:=Tryz.zeroValue235;have u106:=run_underlying Tryz.underlying235
 have t3:=Tryz.underlying3;have a3:=Tryz.isAgg3;have z3:=Tryz.sizeOf3;have v3:=Tryz.zeroValue3;have u3:=run_underlying Tryz.underlying3
 have t9:=Tryz.underlying9;have a9:=Tryz.isAgg9;have z9:=Tryz.sizeOf9;have v9:=Tryz.zeroValue9;have u9:=run_underlying Tryz.underlying9
 have t5:=Tryz.underlying5;have a5:=Tryz.isAgg5;have z5:=Tryz.sizeOf5;have v5:=Tryz.zeroValue5;have u5:=run_underlying Tryz.underlying5
 go_enter Tryz.func164,Tryz.ntmps164
 go_wp2
 go_region_o
 all_goals(go_wp2;go_ret;exact⟨rfl,rfl⟩)
set_option maxHeartbeats 2000000 in
theorem Bstr_w0 (b:Nat)(cs:Array Value)(T:TypeId)(w:World)(hbk:w.heap[b]?=some (.cells cs T (0,0)))(h1:cs[1]?=some (.slice none 0 0)) :
  Calls Tryz.prog 164 #[.pointer (some ⟨b,0,none⟩)] w fun e w'=>e=.returned (.string ⟨#[]⟩)∧w'=w.drew:=by
 have c1:w.drew.cell? ⟨b,1,none⟩=some (.slice none 0 0):=by
  have:w.drew.heap[b]?=some (.cells cs T (0,0)):=hbk
  rw[Lib.cell_of_heap this];exact h1
 have hSD:(Builtin.unsafeSliceData_ #[55] 235 #[.slice none 0 0]).run Tryz.prog w.drew=.ok (.pointer none) w.drew:=rfl
 have hUS:∀(W:World) (q:Option Addr),(Builtin.unsafeString_ #[235,3] 9 #[.pointer q,.int .i64 0]).run Tryz.prog W=.ok (.string .empty) W:=fun W q=>Lib.run_unsafeString_none W _ _ _ q
 have mixed:Tryz.prog.follows .mixedOrders=true:=by kernel_rfl
 have t70:=Tryz.underlying227;have a70:=Tryz.isAgg227;have z70:=Tryz.sizeOf227;have v70:=Tryz.zeroValue227;have u70:=run_underlying Tryz.underlying227
 have t67:=Tryz.underlying225;have a67:=Tryz.isAgg225;have z67:=Tryz.sizeOf225;have v67:=Tryz.zeroValue225;have u67:=run_underlying Tryz.underlying225
 have t68:=Tryz.underlying55;have a68:=Tryz.isAgg55;have z68:=Tryz.sizeOf55;have v68:=Tryz.zeroValue55;have u68:=run_underlying Tryz.underlying55
 have t106:=Tryz.underlying235;have a106:=Tryz.isAgg235;have z106:=Tryz.sizeOf235;have v106:=Tryz.zeroValue235;have u106:=run_underlying Tryz.underlying235
 have t3:=Tryz.underlying3;have a3:=Tryz.isAgg3;have z3:=Tryz.sizeOf3;have v3:=Tryz.zeroValue3;have u3:=run_underlying Tryz.underlying3
 have t9:=Tryz.underlying9;have a9:=Tryz.isAgg9;have z9:=Tryz.sizeOf9;have v9:=Tryz.zeroValue9;have u9:=run_underlying Tryz.underlying9
 have t5:=Tryz.underlying5;have a5:=Tryz.isAgg5;have z5:=Tryz.sizeOf5;have v5:=Tryz.zeroValue5;have u5:=run_underlying Tryz.underlying5
 go_enter Tryz.func164,Tryz.ntmps164
 go_wp2
 go_region_o
 all_goals(go_wp2;go_ret;exact⟨rfl,rfl⟩)
theorem Bstr_S (s:St)(b:Nat)(ad:VV)(bs:List UInt8)(o:Own)(d:Int)(ho:OwnOk s o bs.length)(hn:NotOwn o b)(hne:o=.full∨bs≠[]) :
  SRet Tryz.prog 164 [.ptr b 0] (Wr (s.own o 5 1 bs.length) b ad bs o d) (.str bs) (Wr (s.own o 5 1 bs.length) b ad bs o d):=by
 intro w0 G w vs hS hA
 obtain⟨u,rfl,hu⟩:=rlist1 hA
 cases hu
 have hob:=hS.ok b
 simp only[Wr,St.set_same]at hob
 obtain⟨hB,hnK,c,hh,hcs,hx⟩:=hob
 obtain⟨_,v,hv,hr⟩:=hx 1 (.lst (bytesV bs) o) rfl
 have hex:∀l:List UInt8,R G (.string ⟨l.toArray⟩) (.str l):=fun l=>by simpa using R.str (G:=G) l.toArray
 generalize hys:bytesV bs=ys at hr
 cases hr with
 |emp a cap o ho'=>
  have hb0:bs=[]:=by cases bs<;>simp_all [bytesV]
  subst hb0
  rcases ho' with rfl|⟨rfl,rfl,rfl⟩
  ·exact ho.elim
  ·refine Calls.mono (Bstr_w0 b c _ w hh hv) fun e w' h=>?_
   obtain⟨rfl,rfl⟩:=h
   exact⟨G,_,.ret (.str []),Gh.le.refl G,hS.drew,hex [],rfl,rfl⟩
 |lst g off len cap sz xs' o f hlen hc hz h1 hK hR ho'=>
  rcases ho' with rfl|⟨rfl,_,hpos⟩|⟨rfl,rfl,hcap⟩
  ·exact ho.elim
  ·simp only[OwnOk]at ho
   have:ys.length=bs.length:=by rw[← hys];simp[bytesV]
   omega
  ·have hlb:ys.length=bs.length:=by rw[← hys];simp[bytesV]
   subst hys
   have hgb:¬ b=g:=hn
   have hsg:(Wr (s.own (.at_ g) 5 1 bs.length) b ad bs (.at_ g) d) g=.vec 5 1 bs.length:=by
    show ((s.set g (.vec 5 1 bs.length)).set b _) g=_
    rw[St.set_other _ _ (Ne.symm hgb),St.set_same]
   have hog:=hS.ok g
   rw[hsg]at hog
   obtain⟨hBg,cg,capg,fz,hcapg,hhg,hfz,hcsg,hncg,hcmg,hKng⟩:=hog
   rw[hcap]at hcapg
   injection hcapg with hcapg
   simp only[Prod.mk.injEq]at hcapg
   obtain⟨rfl,rfl⟩:=hcapg
   have hlen2:len=bs.length:=by omega
   subst hlen2
   by_cases h0:bs=[]
   ·subst h0
    rcases hne with hne|hne
    ·cases hne
    ·exact absurd rfl hne
   ·have hpos:0<bs.length:=List.length_pos_iff.2 h0
    refine Calls.mono (Bstr_w b g cap c bs _ cg fz w hh hv hhg (by omega) (by omega) h0 (by simp only[maxLen]at hcmg;omega) ?_) fun e w' h=>?_
    ·intro j x hj
     have hlt:j<bs.length:=(List.getElem?_eq_some_iff.1 hj).1
     have h2:=hS.K _ _ _ (hK j 0 hlt (by omega))
     have h3:=hR j 0 [.int .u8 (x.toNat:Int)] (.int .u8 (x.toNat:Int)) (by simp[bytesV,hj]) rfl
     generalize f j 0=v at h2 h3
     cases h3
     simpa using h2
    ·obtain⟨rfl,rfl⟩:=h
     exact⟨G,_,.ret (.str bs),Gh.le.refl G,hS.drew.freeze hsg (by omega),hex bs,rfl,rfl⟩
def signB (x:Sgn):Bool:=decide (x.text≠[]) && decide (oneK x.text=(x.kind,x.text.length))
def spellV (L:List Sgn):VV:=if L.all signB=true then .tup [.str (Lib.join (L.map (·.text)) [32]),.int .i64 0] else .tup [.str [],.int .i64 1]
theorem join_len (m:Nat)(sep:List UInt8):∀(xs:List (List UInt8)),(∀x,x∈xs→x.length≤m)→(Lib.join xs sep).length≤xs.length * (m+sep.length)
 |[],_=>by simp[Lib.join_nil]
 |x::r,h=>by
  rw[Lib.join_cons,List.length_append]
  have h0:=h x (by simp)
  have h1:∀(r:List (List UInt8)),(∀y,y∈r→y.length≤m)→(Lib.joinTail sep r).length≤r.length * (m+sep.length):=by
   intro r
   induction r with
   |nil=>intro _;simp[Lib.joinTail]
   |cons y r ih=>
    intro hr
    have h2:=ih fun z hz=>hr z (by simp[hz])
    have h3:=hr y (by simp)
    simp only[Lib.joinTail,List.map_cons,List.flatten_cons,List.length_append,List.length_cons,Nat.succ_mul]at h2 ⊢
    omega
  have h2:=h1 r fun y hy=>h y (by simp[hy])
  rw[List.length_cons,Nat.succ_mul]
  omega
theorem markN_le (l:List UInt8):markN l≤32:=by
 unfold markN
 repeat(first|omega|split)
theorem oneK_le32:∀l:List UInt8,(oneK l).2≤32
 |[]=>by simp[oneK]
 |c::l=>by
  simp only[oneK]
  split
  ·split
   ·simp
   ·simp only;omega
  ·split
   ·split
    ·simp
    ·simp only;omega
   ·exact markN_le _
theorem spellV_no {L:List Sgn}{x:Sgn}(h:x∈L)(hx:signB x=false):spellV L=.tup [.str [],.int .i64 1]:=by
 unfold spellV
 rw[if_neg]
 rw[List.all_eq_true]
 intro ha
 rw[ha x h]at hx
 cases hx
theorem Spell_S (L:List Sgn)(o0:Own)(hL:L.length≤4096)(hl:∀x,x∈L→x.text.length≤9223372036854775000)(s:St) :
    SRet Tryz.prog 181 [.lst (L.map sgnC) o0] s (spellV L) s:=by
  refine G_enter Tryz.func181 rfl Tryz.ntmps181 rfl fun Q hQ hQe=>?_
  (repeat'(first|refine Ctl ?_|((with_reducible refine Kof.use hK ?_);clear hK hE K E)|((with_reducible refine W_cond (fun h=>?_) (fun h=>?_))<;>(try(exfalso;omega)))|(((with_reducible refine G_region fun K E hK hE=>?_))<;>(try simp(disch:=omega) only[go_sem,seval,List.length_map, *]))))
  refine G_loop (fun n env s'=>∃(i:Nat) (o:Own),i≤L.length∧n+i=L.length∧(∀x,x∈L.take i→signB x=true)∧s'=s.own o 9 1 i∧OwnOk s o i ∧
      env 4=.lst (strs ((L.take i).map (·.text))) o∧env 12=.lst (L.map sgnC) o0∧env 13=.int .i64 L.length∧env 14=.int .i64 i) L.length ?_ ?_
  · exact⟨_,Fg.refl _,0,.full,by omega,by omega,by simp,rfl,rfl,z_sl,z_sl,z_sl,z_sl⟩
  · rintro n env s' ⟨i,o,hi,hn,hall,rfl,hown,e4,e12,e13,e14⟩
    by_cases hlt:i<L.length
    · have hx:L[i]?=some L[i]:=List.getElem?_eq_getElem hlt
      have hmem:L[i]∈L:=List.getElem_mem hlt
      have hxl:=hl _ hmem
      generalize L[i]=x at hx hmem hxl
      have hsx:(L.map sgnC)[i]?=some (sgnC x):=by rw[List.getElem?_map,hx];rfl
      have htake:L.take (i+1)=L.take i++[x]:=by rw[List.take_add_one,hx];rfl
      have hst:(strs ((L.take i).map fun x=>x.text)).length=i:=by simp[strs];omega
      have hst2:strs ((L.take (i+1)).map fun x=>x.text)=strs ((L.take i).map fun x=>x.text)++[[.str x.text]]:=by rw[htake];simp[strs]
      have hall2:signB x=true→∀y,y∈L.take (i+1)→signB y=true:=fun h y hy=>by
        rw[htake]at hy
        rcases List.mem_append.1 hy with hy|hy
        · exact hall y hy
        · rw[List.mem_singleton]at hy;subst hy;exact h
      clear hall htake
      obtain⟨xk,xt,xa⟩:=x
      cases xt with
      |nil=>
        have hno:spellV L=.tup [.str [],.int .i64 1]:=spellV_no hmem rfl
        (repeat'(first|refine Ctl ?_|((with_reducible refine Kof.use hK ?_);clear hK hE K E)|((with_reducible refine W_cond (fun h=>?_) (fun h=>?_))<;>(try(exfalso;assumption)))|((first|(with_reducible refine G_region fun K E hK hE=>?_)|((with_reducible refine W_fresh (fun b hb=>?_));(repeat(obtain⟨_,hb⟩:=hb))))<;>(try simp(disch:=omega) only[go_sem,seval,List.length_map,hsx,sgnC, *]))))
        all_goals(refine W_ret res181 hQ ?_)
        all_goals refine⟨_,_,?_,?_,rfl,rfl⟩
        · rw[hno];exact Wk.refl _
        · (exact z_fg)
      |cons c l=>
        by_cases hbs:signB ⟨xk,c::l,xa⟩=true
        · have hb2:=hbs
          simp only[signB,Bool.and_eq_true,decide_eq_true_eq]at hb2
          have hk1:((oneK (c::l)).1:Int)=xk:=by rw[hb2.2]
          have hk2:((oneK (c::l)).2:Int)=(l.length:Int)+1:=by rw[hb2.2];simp
          clear hb2
          (repeat'(first|refine Ctl ?_|((with_reducible refine Kof.use hK ?_);clear hK hE K E)|((with_reducible refine W_cond (fun h=>?_) (fun h=>?_))<;>(try(exfalso;assumption)))|((first|(with_reducible first|refine G_region fun K E hK hE=>?_|refine call_ret can75 (one_S _ _ (by assumption) _) ?_)|((with_reducible refine W_fresh (fun b hb=>?_));(repeat(obtain⟨_,hb⟩:=hb)))|((with_reducible refine W_app (fun o2 ho=>?_));(try simp(disch:=assumption) only[disown_set,disown_own,ownok_o,ownok_m,List.length_map,List.length_cons,List.length_nil,Nat.zero_add,List.length_map,hsx,sgnC,hst]at ho);(repeat(obtain⟨_,ho⟩:=ho))))<;>(try simp(disch:=first|assumption|omega) only[go_sem,seval,List.length_map,hsx,sgnC,hst, *]))))
          all_goals exact⟨_,Fg.setA (Fg.refl _) (by rw[own_fr];exact⟨by assumption,by assumption⟩),n - 1,by omega,i+1,o2,by omega,by omega,hall2 hbs,rfl,by assumption,z_sl,z_sl,z_sl,z_sl⟩
        · have hno:spellV L=.tup [.str [],.int .i64 1]:=spellV_no hmem (by simpa using hbs)
          have hb2:¬ (((oneK (c::l)).1:Int)=xk∧((oneK (c::l)).2:Int)=(l.length:Int)+1):=by
            rintro⟨h1,h2⟩
            apply hbs
            simp only[signB,Bool.and_eq_true,decide_eq_true_eq,ne_eq,reduceCtorEq,not_false_eq_true,true_and]
            exact Prod.ext (by omega) (by simp;omega)
          (repeat'(first|refine Ctl ?_|((with_reducible refine Kof.use hK ?_);clear hK hE K E)|((with_reducible refine W_cond (fun h=>?_) (fun h=>?_))<;>(try(exfalso;assumption)))|((first|(with_reducible first|refine G_region fun K E hK hE=>?_|refine call_ret can75 (one_S _ _ (by assumption) _) ?_)|((with_reducible refine W_fresh (fun b hb=>?_));(repeat(obtain⟨_,hb⟩:=hb)))|((with_reducible refine W_app (fun o2 ho=>?_));(try simp(disch:=assumption) only[disown_set,disown_own,ownok_o,ownok_m,List.length_map,List.length_cons,List.length_nil,Nat.zero_add,List.length_map,hsx,sgnC,hst]at ho);(repeat(obtain⟨_,ho⟩:=ho)))|((with_reducible refine W_gd (fun h=>?_) (fun h=>?_))))<;>(try simp(disch:=first|assumption|omega) only[go_sem,seval,List.length_map,hsx,sgnC,hst, *]))))
          all_goals first
            |(exfalso;grind;done)
            | ((first | refine W_ret res181 hQ ?_ | refine W_norm res181 hQ ?_ | refine G_pan hQ ?_)
               refine⟨_,_,?_,?_,rfl,rfl⟩
               · rw[hno];exact Wk.refl _
               · (exact z_fg))
    · have hiL:i=L.length:=by omega
      have htk:L.take i=L:=by rw[hiL];exact List.take_length
      rw[htk]at hall
      have hjl:(Lib.join ((L.take i).map fun x=>x.text) [32]).length≤140737488355328:=by
        rw[htk]
        have h1:=join_len 32 [32] (L.map fun x=>x.text) (fun t ht=>by
          obtain⟨x,hx,rfl⟩:=List.mem_map.1 ht
          have:=hall x hx
          simp only[signB,Bool.and_eq_true,decide_eq_true_eq]at this
          have h2:=oneK_le32 x.text
          rw[this.2]at h2
          exact h2)
        simp only[List.length_map,List.length_cons,List.length_nil]at h1
        have:L.length * (32+(0+1))≤4096 * 33:=Nat.mul_le_mul hL (by omega)
        omega
      have hjn:((L.take i).map fun x=>x.text).length≤140737488355328:=by rw[htk,List.length_map];omega
      have hres:spellV L=.tup [.str (Lib.join ((L.take i).map fun x=>x.text) [32]),.int .i64 0]:=by
        unfold spellV
        rw[if_pos (List.all_eq_true.2 hall),htk]
      clear hall htk hiL
      (repeat'(first|refine Ctl ?_|((with_reducible refine Kof.use hK ?_);clear hK hE K E)|((with_reducible refine W_cond (fun h=>?_) (fun h=>?_))<;>(try(exfalso;assumption)))|(((with_reducible first|refine G_region fun K E hK hE=>?_|refine call_ret can177 (Join_S _ _ _ (by assumption) (by assumption) _) ?_))<;>(try simp(disch:=omega) only[go_sem,seval,List.length_map, *]))))
      all_goals(refine W_ret res181 hQ ?_)
      all_goals refine⟨_,_,?_,?_,rfl,rfl⟩
      · rw[hres];exact Wk.refl _
      · (exact z_fg)
def isNameB (t:List UInt8):Bool:=signB ⟨1,t,0⟩ && !kwB t
theorem isName_S (t:List UInt8)(hl:t.length≤9223372036854775000)(s:St):SRet Tryz.prog 172 [.str t] s (.bool (isNameB t)) s:=by
 refine G_enter Tryz.func172 rfl Tryz.ntmps172 rfl fun Q hQ hQe=>?_
 have hL:([⟨1,t,0⟩]:List Sgn).length≤4096:=by simp
 have hx:∀x,x∈([⟨1,t,0⟩]:List Sgn)→x.text.length≤9223372036854775000:=by intro x hx;rw[List.mem_singleton]at hx;subst hx;exact hl
 have hsp:=Spell_S [⟨1,t,0⟩] .full hL hx s
 simp only[List.map_cons,List.map_nil,sgnC]at hsp
 cases hb:signB ⟨1,t,0⟩
 ·have hv:spellV [⟨1,t,0⟩]=.tup [.str [],.int .i64 1]:=by simp[spellV,hb]
  rw[hv]at hsp
  (repeat'(first|refine Ctl ?_|((with_reducible refine Kof.use hK ?_);clear hK hE K E)|(((with_reducible first|refine G_region fun K E hK hE=>?_|refine call_ret can181 (hsp) ?_))<;>(try simp(disch:=omega) only[go_sem,seval, *]))))
  all_goals(refine W_ret res172 hQ ?_)
  all_goals(refine⟨_,_,Wk.of_eq ?_,?_,rfl,rfl⟩)
  all_goals first|(exact z_fg)|(simp[isNameB,hb])
 ·have hv:spellV [⟨1,t,0⟩]=.tup [.str (Lib.join [t] [32]),.int .i64 0]:=by simp[spellV,hb]
  rw[hv]at hsp
  (repeat'(first|refine Ctl ?_|((with_reducible refine Kof.use hK ?_);clear hK hE K E)|(((with_reducible first|refine G_region fun K E hK hE=>?_|refine call_ret can181 (hsp) ?_|refine call_ret can182 (keyword_S _ _) ?_))<;>(try simp(disch:=omega) only[go_sem,seval, *]))))
  all_goals(refine W_ret res172 hQ ?_)
  all_goals(refine⟨_,_,Wk.of_eq ?_,?_,rfl,rfl⟩)
  all_goals first|(exact z_fg)|(simp[isNameB,hb])
def noName:List (List UInt8)→Int
 |[]=>-1
 |x::r=>if isNameB x=true then(if noName r<0 then -1 else noName r+1)else 0
theorem noName_none:∀{xs:List (List UInt8)},(∀x,x∈xs→isNameB x=true)→noName xs=-1
 |[],_=>rfl
 |x::r,h=>by
  simp only[noName]
  rw[if_pos (h x (by simp)),noName_none fun y hy=>h y (by simp[hy])]
  rfl
theorem noName_at:∀{xs:List (List UInt8)} {i:Nat} {x:List UInt8},(∀x,x∈xs.take i→isNameB x=true)→xs[i]?=some x→isNameB x=false→noName xs=i
 |[],i,x,_,h,_=>by simp at h
 |y::r,0,x,_,h,hx=>by
  simp at h
  subst h
  simp[noName,hx]
 |y::r,i+1,x,ha,h,hx=>by
  have h1:isNameB y=true:=ha y (by simp)
  have h2:=noName_at (xs:=r) (i:=i) (x:=x) (fun z hz=>ha z (by simp[hz])) (by simpa using h) hx
  simp only[noName]
  rw[if_pos h1,h2,if_neg (by omega)]
  omega
theorem noName_any:∀(xs:List (List UInt8)),decide (0≤noName xs)=!(xs.all isNameB)
 |[]=>by simp[noName]
 |x::r=>by
  have:=noName_any r
  cases hx:isNameB x
  ·simp[noName,hx]
  ·simp only[noName,hx,if_true,List.all_cons,Bool.true_and]
   rw[← this]
   split<;>simp<;>omega
theorem cNames_S (t:List UInt8)(hl:t.length≤9223372036854775000)(s:St):SRet Tryz.prog 184 [.str t] s (.bool !(isNameB t)) s:=by
 refine G_enter Tryz.func184 rfl Tryz.ntmps184 rfl fun Q hQ hQe=>?_
 (repeat'(first|refine Ctl ?_|((with_reducible refine Kof.use hK ?_);clear hK hE K E)|(((with_reducible first|refine G_region fun K E hK hE=>?_|refine call_ret can172 (isName_S _ (by assumption) _) ?_))<;>(try simp(disch:=omega) only[go_sem,seval, *]))))
 all_goals(refine W_ret res184 hQ ?_)
 all_goals(refine⟨_,_,Wk.of_eq ?_,?_,rfl,rfl⟩)
 all_goals(exact z_fg)
theorem iNames_S (xs:List (List UInt8))(o:Own)(hl:∀x,x∈xs→x.length≤9223372036854775000)(hn:xs.length≤9223372036854775000)(s:St) :
  SRet Tryz.prog 197 [.lst (strs xs) o,.fn 184 []] s (.int .i64 (noName xs)) s:=by
 have hsl:(strs xs).length=xs.length:=by simp[strs]
 refine G_enter Tryz.func197 rfl Tryz.ntmps197 rfl fun Q hQ hQe=>?_
 (repeat'(first|refine Ctl ?_|((with_reducible refine Kof.use hK ?_);clear hK hE K E)|(((with_reducible refine G_region fun K E hK hE=>?_))<;>(try simp(disch:=omega) only[go_sem,seval,hsl, *]))))
 refine G_loop (fun n env s'=>∃(i:Nat),i≤xs.length∧n+i=xs.length∧(∀x,x∈xs.take i→isNameB x=true)∧s'=s ∧
   env 0=.lst (strs xs) o∧env 1=.fn 184 []∧env 7=.int .i64 xs.length∧env 8=.int .i64 i) xs.length ?_ ?_
 ·exact⟨_,Fg.refl _,0,by omega,by omega,by simp,rfl,z_sl,z_sl,z_sl,z_sl⟩
 ·rintro n env s' ⟨i,hi,hm,hall,rfl,e0,e1,e7,e8⟩
  by_cases hlt:i<xs.length
  ·have hx:xs[i]?=some xs[i]:=List.getElem?_eq_getElem hlt
   have hxl:=hl _ (List.getElem_mem hlt)
   generalize xs[i]=x at hx hxl
   have hsx:(strs xs)[i]?=some [.str x]:=by simp[strs,hx]
   have htake:xs.take (i+1)=xs.take i++[x]:=by rw[List.take_add_one,hx];rfl
   cases hb:isNameB x
   ·have hres:=noName_at hall hx hb
    clear hall htake
    (repeat'(first|refine Ctl ?_|((with_reducible refine Kof.use hK ?_);clear hK hE K E)|((with_reducible refine W_cond (fun h=>?_) (fun h=>?_))<;>(try(exfalso;assumption)))|(((with_reducible first|refine G_region fun K E hK hE=>?_|refine call_ret can184 (cNames_S _ (by assumption) _) ?_))<;>(try simp(disch:=omega) only[go_sem,seval,hsl,hsx, *]))))
    all_goals(refine W_ret res197 hQ ?_)
    all_goals(refine⟨_,_,Wk.of_eq ?_,?_,rfl,rfl⟩)
    all_goals first|(exact z_fg)|(rw[hres];done)
   ·have hall2:∀y,y∈xs.take (i+1)→isNameB y=true:=fun y hy=>by
     rw[htake]at hy
     rcases List.mem_append.1 hy with hy|hy
     ·exact hall y hy
     ·rw[List.mem_singleton]at hy;subst hy;exact hb
    clear hall htake
    (repeat'(first|refine Ctl ?_|((with_reducible refine Kof.use hK ?_);clear hK hE K E)|((with_reducible refine W_cond (fun h=>?_) (fun h=>?_))<;>(try(exfalso;assumption)))|(((with_reducible first|refine G_region fun K E hK hE=>?_|refine call_ret can184 (cNames_S _ (by assumption) _) ?_))<;>(try simp(disch:=omega) only[go_sem,seval,hsl,hsx, *]))))
    all_goals exact⟨_,Fg.refl _,n - 1,by omega,i+1,by omega,by omega,hall2,rfl,z_sl,z_sl,z_sl,z_sl⟩
  ·have hres:noName xs=-1:=noName_none (by
    have:xs.take i=xs:=List.take_of_length_le (by omega)
    rw[this]at hall
    exact hall)
   clear hall
   (repeat'(first|refine Ctl ?_|((with_reducible refine Kof.use hK ?_);clear hK hE K E)|((with_reducible refine W_cond (fun h=>?_) (fun h=>?_))<;>(try(exfalso;assumption)))|(((with_reducible refine G_region fun K E hK hE=>?_))<;>(try simp(disch:=omega) only[go_sem,seval,hsl, *]))))
   all_goals(refine W_ret res197 hQ ?_)
   all_goals(refine⟨_,_,Wk.of_eq ?_,?_,rfl,rfl⟩)
   all_goals first|(exact z_fg)|(rw[hres];done)
theorem fNames_S (xs:List (List UInt8))(o:Own)(hl:∀x,x∈xs→x.length≤9223372036854775000)(hn:xs.length≤9223372036854775000)(s:St) :
  SRet Tryz.prog 183 [.lst (strs xs) o,.fn 184 []] s (.bool !(xs.all isNameB)) s:=by
 refine G_enter Tryz.func183 rfl Tryz.ntmps183 rfl fun Q hQ hQe=>?_
 (repeat'(first|refine Ctl ?_|((with_reducible refine Kof.use hK ?_);clear hK hE K E)|(((with_reducible first|refine G_region fun K E hK hE=>?_|refine call_ret can197 (iNames_S _ _ (by assumption) (by assumption) _) ?_))<;>(try simp(disch:=omega) only[go_sem,seval, *]))))
 all_goals(refine W_ret res183 hQ ?_)
 all_goals(refine⟨_,_,Wk.of_eq ?_,?_,rfl,rfl⟩)
 all_goals first|(exact z_fg)|(rw[noName_any])
theorem cMay_S (t:List UInt8)(hl:t.length≤9223372036854775000)(s:St):SRet Tryz.prog 198 [.str t] s (.bool !(isNameB t)) s:=by
 refine G_enter Tryz.func198 rfl Tryz.ntmps198 rfl fun Q hQ hQe=>?_
 (repeat'(first|refine Ctl ?_|((with_reducible refine Kof.use hK ?_);clear hK hE K E)|(((with_reducible first|refine G_region fun K E hK hE=>?_|refine call_ret can172 (isName_S _ (by assumption) _) ?_))<;>(try simp(disch:=omega) only[go_sem,seval, *]))))
 all_goals(refine W_ret res198 hQ ?_)
 all_goals(refine⟨_,_,Wk.of_eq ?_,?_,rfl,rfl⟩)
 all_goals(exact z_fg)
theorem iMay_S (xs:List (List UInt8))(o:Own)(hl:∀x,x∈xs→x.length≤9223372036854775000)(hn:xs.length≤9223372036854775000)(s:St) :
  SRet Tryz.prog 197 [.lst (strs xs) o,.fn 198 []] s (.int .i64 (noName xs)) s:=by
 have hsl:(strs xs).length=xs.length:=by simp[strs]
 refine G_enter Tryz.func197 rfl Tryz.ntmps197 rfl fun Q hQ hQe=>?_
 (repeat'(first|refine Ctl ?_|((with_reducible refine Kof.use hK ?_);clear hK hE K E)|(((with_reducible refine G_region fun K E hK hE=>?_))<;>(try simp(disch:=omega) only[go_sem,seval,hsl, *]))))
 refine G_loop (fun n env s'=>∃(i:Nat),i≤xs.length∧n+i=xs.length∧(∀x,x∈xs.take i→isNameB x=true)∧s'=s ∧
   env 0=.lst (strs xs) o∧env 1=.fn 198 []∧env 7=.int .i64 xs.length∧env 8=.int .i64 i) xs.length ?_ ?_
 ·exact⟨_,Fg.refl _,0,by omega,by omega,by simp,rfl,z_sl,z_sl,z_sl,z_sl⟩
 ·rintro n env s' ⟨i,hi,hm,hall,rfl,e0,e1,e7,e8⟩
  by_cases hlt:i<xs.length
  ·have hx:xs[i]?=some xs[i]:=List.getElem?_eq_getElem hlt
   have hxl:=hl _ (List.getElem_mem hlt)
   generalize xs[i]=x at hx hxl
   have hsx:(strs xs)[i]?=some [.str x]:=by simp[strs,hx]
   have htake:xs.take (i+1)=xs.take i++[x]:=by rw[List.take_add_one,hx];rfl
   cases hb:isNameB x
   ·have hres:=noName_at hall hx hb
    clear hall htake
    (repeat'(first|refine Ctl ?_|((with_reducible refine Kof.use hK ?_);clear hK hE K E)|((with_reducible refine W_cond (fun h=>?_) (fun h=>?_))<;>(try(exfalso;assumption)))|(((with_reducible first|refine G_region fun K E hK hE=>?_|refine call_ret can198 (cMay_S _ (by assumption) _) ?_))<;>(try simp(disch:=omega) only[go_sem,seval,hsl,hsx, *]))))
    all_goals(refine W_ret res197 hQ ?_)
    all_goals(refine⟨_,_,Wk.of_eq ?_,?_,rfl,rfl⟩)
    all_goals first|(exact z_fg)|(rw[hres];done)
   ·have hall2:∀y,y∈xs.take (i+1)→isNameB y=true:=fun y hy=>by
     rw[htake]at hy
     rcases List.mem_append.1 hy with hy|hy
     ·exact hall y hy
     ·rw[List.mem_singleton]at hy;subst hy;exact hb
    clear hall htake
    (repeat'(first|refine Ctl ?_|((with_reducible refine Kof.use hK ?_);clear hK hE K E)|((with_reducible refine W_cond (fun h=>?_) (fun h=>?_))<;>(try(exfalso;assumption)))|(((with_reducible first|refine G_region fun K E hK hE=>?_|refine call_ret can198 (cMay_S _ (by assumption) _) ?_))<;>(try simp(disch:=omega) only[go_sem,seval,hsl,hsx, *]))))
    all_goals exact⟨_,Fg.refl _,n - 1,by omega,i+1,by omega,by omega,hall2,rfl,z_sl,z_sl,z_sl,z_sl⟩
  ·have hres:noName xs=-1:=noName_none (by
    have:xs.take i=xs:=List.take_of_length_le (by omega)
    rw[this]at hall
    exact hall)
   clear hall
   (repeat'(first|refine Ctl ?_|((with_reducible refine Kof.use hK ?_);clear hK hE K E)|((with_reducible refine W_cond (fun h=>?_) (fun h=>?_))<;>(try(exfalso;assumption)))|(((with_reducible refine G_region fun K E hK hE=>?_))<;>(try simp(disch:=omega) only[go_sem,seval,hsl, *]))))
   all_goals(refine W_ret res197 hQ ?_)
   all_goals(refine⟨_,_,Wk.of_eq ?_,?_,rfl,rfl⟩)
   all_goals first|(exact z_fg)|(rw[hres];done)
theorem fMay_S (xs:List (List UInt8))(o:Own)(hl:∀x,x∈xs→x.length≤9223372036854775000)(hn:xs.length≤9223372036854775000)(s:St) :
  SRet Tryz.prog 183 [.lst (strs xs) o,.fn 198 []] s (.bool !(xs.all isNameB)) s:=by
 refine G_enter Tryz.func183 rfl Tryz.ntmps183 rfl fun Q hQ hQe=>?_
 (repeat'(first|refine Ctl ?_|((with_reducible refine Kof.use hK ?_);clear hK hE K E)|(((with_reducible first|refine G_region fun K E hK hE=>?_|refine call_ret can197 (iMay_S _ _ (by assumption) (by assumption) _) ?_))<;>(try simp(disch:=omega) only[go_sem,seval, *]))))
 all_goals(refine W_ret res183 hQ ?_)
 all_goals(refine⟨_,_,Wk.of_eq ?_,?_,rfl,rfl⟩)
 all_goals first|(exact z_fg)|(rw[noName_any])
def namesB (xs:List (List UInt8)):Bool:=decide (xs.length≤8) && xs.all isNameB
theorem oonames_S (xs:List (List UInt8))(o:Own)(hl:∀x,x∈xs→x.length≤9223372036854775000)(s:St) :
  SRet Tryz.prog 173 [.lst (strs xs) o] s (.bool (namesB xs)) s:=by
 have hsl:(strs xs).length=xs.length:=by simp[strs]
 refine G_enter Tryz.func173 rfl Tryz.ntmps173 rfl fun Q hQ hQe=>?_
 by_cases h8:xs.length≤8
 ·have hn:xs.length≤9223372036854775000:=by omega
  (repeat'(first|refine Ctl ?_|((with_reducible refine Kof.use hK ?_);clear hK hE K E)|((first|(with_reducible first|refine G_region fun K E hK hE=>?_|refine call_ret can183 (fNames_S _ _ (by assumption) (by assumption) _) ?_)|((with_reducible refine W_gd (fun h=>?_) (fun h=>?_))<;>(try(exfalso;omega))))<;>(try simp(disch:=omega) only[go_sem,seval,hsl, *]))))
  all_goals(refine W_ret res173 hQ ?_)
  all_goals(refine⟨_,_,Wk.of_eq ?_,?_,rfl,rfl⟩)
  all_goals first|(exact z_fg)|(simp[namesB,h8])
 ·(repeat'(first|refine Ctl ?_|((with_reducible refine Kof.use hK ?_);clear hK hE K E)|((first|(with_reducible refine G_region fun K E hK hE=>?_)|((with_reducible refine W_gd (fun h=>?_) (fun h=>?_))<;>(try(exfalso;omega))))<;>(try simp(disch:=omega) only[go_sem,seval,hsl, *]))))
  all_goals(refine W_ret res173 hQ ?_)
  all_goals(refine⟨_,_,Wk.of_eq ?_,?_,rfl,rfl⟩)
  all_goals first|(exact z_fg)|(simp[namesB,h8])
def In (e:Nat)(L:List Sgn):Prop:=∀y,y∈L→y.at_≤e
def LxIn (E:Nat):Except (Nat×Nat) (List Sgn)→Prop
 |.ok L=>In E L
 |.error q=>q.1≤E
theorem lex_in (E:Nat):∀(f:Nat) (l:List UInt8) (a:Nat) (out:List Sgn),a+l.length≤E→In E out→LxIn E (lexGo f l a out)
 |0,l,a,out,_,h=>h
 |f+1,l,a,out,ha,h=>by
  simp only[lexGo]
  have hb:=runN_le blankB l
  generalize hd:l.drop (runN blankB l)=d
  have hdl:d.length=l.length - runN blankB l:=by rw[← hd,List.length_drop]
  cases d with
  |nil=>exact h
  |cons c r=>
   have h1:=runN_le noLine (c::r)
   have h2:=oneK_le c r
   simp only
   split
   ·exact lex_in E f _ _ _ (by rw[List.length_drop];omega) h
   ·split
    ·show a+runN blankB l≤E
     omega
    ·split
     ·show a+runN blankB l≤E
      omega
     ·refine lex_in E f _ _ _ (by rw[List.length_drop];omega) fun y hy=>?_
      rcases List.mem_append.1 hy with hy|hy
      ·exact h y hy
      ·simp only[List.mem_singleton]at hy
       subst hy
       show a+runN blankB l≤E
       omega
def Bl (r:List UInt8):Prop:=∀c t,r=c::t→blankB c=true
theorem Bl.nil:Bl []:=fun c t h=>by cases h
theorem blank_dig {c:UInt8}(h:blankB c=true):digB c=false∧partB c=false∧c≠45∧c≠58∧c≠61:=by
 rw[blankB_mem,decide_eq_true_eq]at h
 rcases h with rfl|rfl|rfl|rfl<;>decide
theorem runN_swap {p:UInt8→Bool}{r r':List UInt8}(h':∀c s,r'=c::s→p c=false):∀t:List UInt8,runN p (t++r)=t.length→runN p (t++r')=t.length
 |[],_=>by
  cases r' with
  |nil=>rfl
  |cons c s=>rw[List.nil_append,runN_cons,h' c s rfl];rfl
 |c::t,h=>by
  rw[List.cons_append,runN_cons]at h ⊢
  cases hc:p c with
  |false=>rw[hc]at h;simp at h
  |true=>
   rw[hc]at h
   simp only[if_true,List.length_cons]at h ⊢
   have:=runN_swap (r:=r) h' t (by omega)
   omega
theorem pre2 {a b x:UInt8}{r:List UInt8}:List.isPrefixOf [a,b] (x::r)=(x == a && (match r with|y::_=>y == b|[]=>false)):=by
 cases r<;>simp[List.isPrefixOf,Bool.beq_comm,BEq.comm]
theorem markN_swap {c:UInt8}{s r r':List UInt8}(hb:Bl r')(h:markN (c::s++r)=(c::s).length):markN (c::s++r')=(c::s).length:=by
 cases s with
 |nil=>
  cases r' with
  |nil=>
   simp only[markN,List.cons_append,List.nil_append,pre2]at h ⊢
   cases r with
   |nil=>simpa using h
   |cons y r=>
    simp only at h
    split at h
    ·simp at h
    ·split at h
     ·simp at h
     ·split at h
      ·simp at h
      ·simpa using h
  |cons y' r'=>
   obtain⟨_,_,h1,h2,h3⟩:=blank_dig (hb y' r' rfl)
   simp only[markN,List.cons_append,List.nil_append,pre2,beq_eq_false_iff_ne.2 h1,beq_eq_false_iff_ne.2 h2,beq_eq_false_iff_ne.2 h3,Bool.and_false]at h ⊢
   cases r with
   |nil=>simpa using h
   |cons y r=>
    simp only at h
    split at h
    ·simp at h
    ·split at h
     ·simp at h
     ·split at h
      ·simp at h
      ·simpa using h
 |cons d s=>
  simp only[markN,List.cons_append,pre2,List.length_cons]at h ⊢
  split at h
  ·rename_i h1;rw[if_pos h1];exact h
  ·rename_i h1;rw[if_neg h1]
   split at h
   ·rename_i h2;rw[if_pos h2];exact h
   ·rename_i h2;rw[if_neg h2]
    split at h
    ·rename_i h3;rw[if_pos h3];exact h
    ·split at h<;>omega
theorem oneK_swap {t r r':List UInt8}{k:Nat}(ht:t≠[])(hb:Bl r')(h:oneK (t++r)=(k,t.length)):oneK (t++r')=(k,t.length):=by
 cases t with
 |nil=>exact absurd rfl ht
 |cons c s=>
  have e1:runN digB (c::s++r)=(c::s).length→runN digB (c::s++r')=(c::s).length:=runN_swap (fun c t e=>(blank_dig (hb c t e)).1) _
  have e2:runN partB (c::s++r)=(c::s).length→runN partB (c::s++r')=(c::s).length:=runN_swap (fun c t e=>(blank_dig (hb c t e)).2.1) _
  have e3:markN (c::s++r)=(c::s).length→markN (c::s++r')=(c::s).length:=markN_swap hb
  rw[List.cons_append]at h e1 e2 e3 ⊢
  simp only[oneK]at h ⊢
  rw[List.cons_append]at e1 e2 e3
  split at h
  ·rename_i hd
   rw[if_pos hd]
   split at h
   ·injection h with _ h;simp at h
   ·rename_i hn
    injection h with h1 h2
    have e:=e1 h2
    rw[e,if_neg (by rw[← h2];exact hn),h1]
  ·rename_i hd
   rw[if_neg hd]
   split at h
   ·rename_i hp
    rw[if_pos hp]
    split at h
    ·injection h with _ h;simp at h
    ·rename_i hn
     injection h with h1 h2
     have e:=e2 h2
     rw[e,if_neg (by rw[← h2];exact hn),h1]
   ·rename_i hp
    rw[if_neg hp]
    injection h with h1 h2
    rw[e3 h2,h1]
def Gd (x:Sgn):Prop:=x.text≠[]∧oneK x.text=(x.kind,x.text.length)∧∀c s,x.text=c::s→blankB c=false∧¬ c.toNat=35
def sumT (L:List Sgn):Nat:=(L.map fun x=>x.text.length).sum
theorem sumT_app (A B:List Sgn):sumT (A++B)=sumT A+sumT B:=by simp[sumT]
theorem lex_gd (m:Nat):∀(l:List UInt8) (a:Nat) (out L:List Sgn),l.length≤m→lexR l a out=.ok L→(∀x,x∈out→Gd x)→out.length≤4096→(∀x,x∈L→Gd x)∧sumT L≤sumT out+l.length∧L.length≤4096:=by
 induction m with
 |zero=>
  intro l a out L hm h ho hl
  have:l=[]:=List.eq_nil_of_length_eq_zero (by omega)
  subst this
  rw[lexR_nil]at h;cases h
  exact⟨ho,by omega,hl⟩
 |succ m ih=>
  intro l a out L hm h ho hl
  cases l with
  |nil=>rw[lexR_nil]at h;cases h;exact⟨ho,by omega,hl⟩
  |cons c r=>
   simp only[List.length_cons]at hm ⊢
   cases hb:blankB c with
   |true=>
    rw[lexR_blank hb]at h
    obtain⟨h1,h2,h3⟩:=ih r _ _ _ (by omega) h ho hl
    exact⟨h1,by omega,h3⟩
   |false=>
    by_cases h35:c.toNat=35
    ·rw[lexR_hash h35]at h
     have hn:1≤runN noLine (c::r):=by rw[runN_cons,if_pos (by simp[noLine];omega)];omega
     obtain⟨h1,h2,h3⟩:=ih _ _ _ _ (by rw[List.length_drop,List.length_cons];omega) h ho hl
     rw[List.length_drop,List.length_cons]at h2
     exact⟨h1,by omega,h3⟩
    ·rw[lexR_sign hb h35]at h
     have hle:=oneK_le c r
     rw[List.length_cons]at hle
     generalize he:oneK (c::r)=q at h hle
     obtain⟨k,n⟩:=q
     simp only at h hle
     split at h
     ·cases h
     ·split at h
      ·cases h
      ·rename_i hn hf
       have hne:(c::r).take n≠[]:=by
        cases n with
        |zero=>exact absurd rfl hn
        |succ n=>simp
       have hlen:((c::r).take n).length=n:=by rw[List.length_take,List.length_cons];omega
       have hg:Gd ⟨k,(c::r).take n,a⟩:=by
        refine⟨hne,?_,fun c' s' e=>?_⟩
        ·have e1:oneK ((c::r).take n++(c::r).drop n)=(k,((c::r).take n).length):=by rw[List.take_append_drop,hlen];exact he
         have:=oneK_swap hne Bl.nil e1
         rw[List.append_nil]at this;exact this
        ·cases n with
         |zero=>exact absurd rfl hn
         |succ n=>
          simp only[List.take_succ_cons]at e
          injection e with e1 e2;subst e1;exact⟨hb,h35⟩
       obtain⟨h1,h2,h3⟩:=ih _ _ _ _ (by rw[List.length_drop,List.length_cons];omega) h (fun x hx=>by
        rcases List.mem_append.1 hx with hx|hx
        ·exact ho x hx
        ·simp only[List.mem_singleton]at hx;subst hx;exact hg) (by simp;omega)
       refine⟨h1,?_,h3⟩
       rw[sumT_app,List.length_drop,List.length_cons]at h2
       have:sumT [⟨k,(c::r).take n,a⟩]=n:=by simp only[sumT,List.map_cons,List.map_nil,List.sum_cons,List.sum_nil,hlen];rfl
       rw[this]at h2
       omega
theorem lexS_gd {l:List UInt8}{L:List Sgn}(h:lexSigns l=.ok L):(∀x,x∈L→Gd x)∧sumT L≤l.length∧L.length≤4096:=by
 unfold lexSigns at h
 split at h
 ·cases h
 ·have:=lex_gd l.length l 0 [] L (Nat.le_refl _) h (fun x hx=>by cases hx) (by simp)
  simpa [sumT]using this
end Go.Proofs.YtgdbgfjhenobdaaGreatDoor
