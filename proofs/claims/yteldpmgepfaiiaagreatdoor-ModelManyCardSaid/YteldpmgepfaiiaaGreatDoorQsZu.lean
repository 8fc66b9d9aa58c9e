/- Walks of functions, and plain facts. Conditions: those in the statements. -/
import Derived.Test.YteldpmgepfaiiaaGreatDoorQsZt
import Derived.Test.YteldpmgepfaiiaaGreatDoorQsZq
import Derived.Test.YteldpmgepfaiiaaGreatDoorQsZp
set_option linter.unusedSimpArgs false
set_option linter.unusedVariables false
set_option maxRecDepth 100000
namespace Go.Proofs.YteldpmgepfaiiaaGreatDoor
open Go.RowKit
attribute [local go_sem] aH aV cH
def mnR (i:Nat):List (List VV):=(mnP i).rules.map ax
theorem Nf {i:Nat}:(mnR i).length=i+1:=by
 simp[mnR,mnP,gvP,mn0,mnG,eO,xB,MT]
theorem Na {i:Nat}:mnR (i+1)=mnR i++[[.bool false,.str [115],.lst [[.bool false,.str [],.int .i64 i]] .no,.lst [] .no]]:=by
 have h:(mnP (i+1)).rules=(mnP i).rules++[gS [115] [(i:Int)]]:=by
  simp only[mnP,gvP,mnG,eO,xB,List.flatMap_cons,List.flatMap_nil,List.append_nil,MT]
  rw[List.range_succ,List.map_append,List.map_append,List.append_assoc]
  rfl
 unfold mnR
 rw[h,List.map_append]
 rfl
set_option maxHeartbeats 16000000 in
theorem MY (av:Int)(t:St):SRet Tryz.prog 6 [.int .i64 av] t (.bool true) t:=by
 have p1:=fun s=>M7 [100,111,109,32,86,32,54,52,46,32,114,101,108,32,115,40,86,41,46,32,114,101,108,32,116,40,86,44,86,44,86,41,46,32,116,40,120,44,121,44,122,41,58,45,115,40,120,41,44,115,40,121,41,44,115,40,122,41,46] (by decide) mn0 mn0T s
 obtain⟨m0,hm0,hm1⟩:=Cq av 5 (by omega)
 have hm:uc .i64 av 31=(m0:Int):=hm0
 have hm2:m0<32:=hm1
 have hn1:IntKind.i64.wrap (1+(m0:Int))=((m0+1:Nat):Int):=by
  rw[show (1+(m0:Int))=((m0+1:Nat):Int) by omega]
  exact eo (by omega) (by omega)
 clear hm0 hm1
 generalize hn:m0+1=n at *
 have hn0:0<n:=by omega
 have hn32:n<=32:=by omega
 clear hn hm2
 have hnn:n*n<=1024:=Nat.mul_le_mul hn32 hn32
 have hnnn:n*n*n<=32768:=Nat.mul_le_mul hnn hn32
 have hw1:IntKind.i64.wrap ((n:Int)*(n:Int))=((n*n:Nat):Int):=by
  rw[show (n:Int)*(n:Int)=((n*n:Nat):Int) by simp]
  exact eo (by omega) (by omega)
 have hw2:IntKind.i64.wrap (((n*n:Nat):Int)*(n:Int))=((n*n*n:Nat):Int):=by
  rw[show ((n*n:Nat):Int)*(n:Int)=((n*n*n:Nat):Int) by simp]
  exact eo (by omega) (by omega)
 have w5:=fun o1 o2 o3 oL s=>qW (Ni hn32) (M9 hn32).ds o1 o2 o3 oL s
 rw[show (mnP n).rules.map ax=mnR n from rfl,show (mnP n).doms=mn0.doms from rfl,show (mnP n).decls=mn0.decls from rfl]at w5
 rw[show mn0.rules.map ax=mnR 0 from rfl,show mn0.rules.length=0+1 from rfl]at p1
 generalize mn0.doms.map dmC=x1 at *
 generalize mn0.decls.map az=x2 at *
 refine aw Tryz.func6 rfl Tryz.ntmps6 rfl fun Q hQ hQe=>?_
 (repeat'(first|refine Ctl ?_|((with_reducible refine j_ hK ?_);clear hK hE K E)|((first|(with_reducible refine ae fun K E hK hE=>?_)|((with_reducible refine aO ML (p1 _) (fun a h=>?_)))|((with_reducible refine ao (fun b hb=>?_));(repeat(obtain⟨_,hb⟩:=hb))))<;>(try simp(disch:=omega) only[go_sem,seval,hm,hn1, *]))))
 obtain⟨bp,hbp⟩:∃z,z=b:=⟨_,rfl⟩
 subst hbp
 obtain⟨o0,S0⟩:=a
 obtain⟨ho0,hS0⟩:=h
 simp only at ho0 hS0 ⊢
 have hop0:ay o0 bp:=by assumption
 clear hS0
 refine ef (fun m env s'=>∃(i:Nat) (o:Own),i<=n/\m+i=n/\OwnOk t o (i+1)/\ay o bp/\s'=(t.own o 43 4 (i+1)).set bp (.obj 26 [.lst x1 .no,.lst x2 .no,.lst (mnR i) o]) /\
  env 3=.int .i64 n/\env 4=.ptr bp 0/\env 7=.int .i64 i) n ?_ ?_
 ·exact⟨_,GS.refl _,0,o0,by omega,by omega,ho0,hop0,rfl,ab,ab,ab⟩
 clear ho0 hop0 p1
 rintro m env s' ⟨i,o,hi,hm2,ho,hop,rfl,e3,e4,e7⟩
 by_cases hlt:i<n
 ·have hln:=Nf (i:=i)
  (repeat'(first|refine Ctl ?_|((with_reducible refine j_ hK ?_);clear hK hE K E)|((with_reducible refine aj (fun h=>?_) (fun h=>?_))<;>(try(exfalso;assumption)))|((first|(with_reducible refine ae fun K E hK hE=>?_)|((with_reducible refine cq (fun o2 ho=>?_));(try simp(disch:=assumption) only[aQ,aS,bc,cB,a_,List.length_cons,List.length_nil,Nat.zero_add,hln]at ho);(repeat(obtain⟨_,ho⟩:=ho))))<;>(try simp(disch:=first|assumption|omega) only[go_sem,seval,hln, *]))))
  refine⟨_,GS.wkobj (b:=bp) (ys:=[.lst x1 .no,.lst x2 .no,.lst (mnR (i+1)) o2]) (q_ _ _ _) rfl (fun j y hy=>?_),m - 1,by omega,i+1,o2,by omega,by omega,ho,‹_›,by rw[St.set_set],ab,ab,ab⟩
  match j with
  |0=>simp at hy;subst hy;exact⟨_,rfl,Wk.refl _,id⟩
  |1=>simp at hy;subst hy;exact⟨_,rfl,Wk.refl _,id⟩
  |2=>
   simp at hy;subst hy
   refine⟨_,rfl,?_,id⟩
   rw[Na]
   exact Wk.rows (by simp) (yM (.same _ (.same _ (.lst _ _ (.lst _ _ .nil)))))
  |j+3=>simp at hy
 ·obtain rfl:i=n:=by omega
  have HFZ:Hid (Fg ((t.own o 43 4 (i+1)).set bp (.obj 26 [.lst x1 .no,.lst x2 .no,.lst (mnR i) o])) t):=u_ ((v_ _ (by rw[aR];exact⟨hop,hb⟩)).trans (Fg.own ho))
  have hZp:((t.own o 43 4 (i+1)).set bp (.obj 26 [.lst x1 .no,.lst x2 .no,.lst (mnR i) o])) bp=.obj 26 [.lst x1 .no,.lst x2 .no,.lst (mnR i) o]:=q_ _ _ _
  generalize (t.own o 43 4 (i+1)).set bp (.obj 26 [.lst x1 .no,.lst x2 .no,.lst (mnR i) o])=Z at *
  clear ho hop hb hi hm2
  (repeat'(first|refine Ctl ?_|((with_reducible refine j_ hK ?_);clear hK hE K E)|((with_reducible refine aj (fun h=>?_) (fun h=>?_))<;>(try(exfalso;assumption)))|(((with_reducible refine ae fun K E hK hE=>?_))<;>(try simp(disch:=omega) only[go_sem,seval, *]))))
  refine aO tW (w5 _ _ _ _ _) (fun q h2=>?_)
  have hN:=Nc hn32 h2
  obtain⟨L,e⟩:=q
  by_cases hbig:16384<i*i*i
  ·rw[if_pos hbig]at hN
   obtain⟨hL,he⟩:=hN
   simp only at hL he
   subst hL
   subst he
   have hbT:((16384:Int)<((i*i*i:Nat):Int))=True:=eq_true (by omega)
   clear h2
   simp only[go_sem,seval]
   (repeat'(first|refine Ctl ?_|((with_reducible refine j_ hK ?_);clear hK hE K E)|((with_reducible refine aj (fun h=>?_) (fun h=>?_))<;>(try(exfalso;assumption)))|(((with_reducible first|refine ae fun K E hK hE=>?_|refine ak gm (gq _) ?_))<;>(try simp(disch:=omega) only[go_sem,seval,hw1,hw2,hbT, *]))))
   all_goals(refine ap Nh hQ ?_)
   all_goals exact⟨_,_,Wk.refl _,HFZ.out,rfl,rfl⟩
  ·rw[if_neg hbig]at hN
   obtain⟨he,hL⟩:=hN
   simp only at hL he
   subst hL
   subst he
   have hbT:((16384:Int)<((i*i*i:Nat):Int))=False:=eq_false (by omega)
   have hrl:(aF (MU i)).length=i*i*i:=rowsV_len.trans MV
   clear h2
   simp only[List.map_cons,List.map_nil,aX]
   generalize aF (MU i)=R2 at *
   generalize aF (MT i)=R1 at *
   simp only[go_sem,seval]
   (repeat'(first|refine Ctl ?_|((with_reducible refine j_ hK ?_);clear hK hE K E)|((with_reducible refine aj (fun h=>?_) (fun h=>?_))<;>(try(exfalso;assumption)))|(((with_reducible first|refine ae fun K E hK hE=>?_|refine ak gm (gq _) ?_))<;>(try simp(disch:=omega) only[go_sem,seval,hw1,hw2,hbT,hrl, *]))))
   all_goals(refine ap Nh hQ ?_)
   all_goals exact⟨_,_,Wk.refl _,HFZ.out,rfl,rfl⟩
end Go.Proofs.YteldpmgepfaiiaaGreatDoor
