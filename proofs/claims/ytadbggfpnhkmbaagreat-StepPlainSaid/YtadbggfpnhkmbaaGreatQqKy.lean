/- Walks of functions that the claim reaches, and plain facts of them. Conditions: those in the statements. -/
import Derived.Test.YtadbggfpnhkmbaaGreatQqKuj
import Derived.Test.YtadbggfpnhkmbaaGreatQqPwj
import Derived.Test.YtadbggfpnhkmbaaGreatQqKcj
import Derived.Test.YtadbggfpnhkmbaaGreatQqRunj
set_option linter.unusedSimpArgs false
set_option linter.unusedVariables false
set_option maxRecDepth 1000000
namespace Go.Proofs.YtadbggfpnhkmbaaGreat
open Go.RowKit
def slF:Sl→List VV
 |.nw v=>[.int .i64 1,.str v,.str [],.str [],.str [77,97,105,110],.lst [] .full,.lst [] .full,.lst [] .full]
 |.st d s f=>[.int .i64 4,.str d,.str s,.str [],.str f,.lst [] .full,.lst [] .full,.lst [] .full]
def bodyF (k:Nat):List (List VV):=((List.range k).map plAt).map slF
def kI (i:Nat):Nat:=if i=0 then 0 else 2 * i - 1
theorem bodyF_len {k:Nat}:(bodyF k).length=k:=by simp[bodyF]
theorem bodyF_succ {k:Nat}:bodyF (k+1)=bodyF k++[slF (plAt k)]:=by unfold bodyF;rw[List.range_succ,List.map_append,List.map_append];rfl
theorem pl_bytes {i:Nat}(hi:i<60):∃c1 c2:Int,IntKind.u8.wrap (IntKind.i64.wrap (97+(i:Int).tmod 20))=c1∧IntKind.u8.wrap (IntKind.i64.wrap (97+IntKind.i64.wrap ((i:Int).tdiv 20)))=c2∧[[VV.int .u8 118],[VV.int .u8 c1],[VV.int .u8 c2]]=bytesV (plV i):=by
 refine⟨((97+i % 20:Nat):Int),((97+i / 20:Nat):Int),?_,?_,?_⟩
 ·rw[IntKind.wrap_i64,IntKind.wrap_u8]
  rw[Int.tmod_eq_emod_of_nonneg (by omega)]
  omega
 ·rw[IntKind.wrap_i64,IntKind.wrap_i64,IntKind.wrap_u8]
  rw[Int.tdiv_eq_ediv_of_nonneg (by omega)]
  omega
 ·simp[bytesV,plV]
  omega
theorem bodyF_two (j:Nat):bodyF (kI (j+2))=bodyF (2 * j+1)++[[.int .i64 1,.str (plV (j+1)),.str [],.str [],.str [77,97,105,110],.lst [] .full,.lst [] .full,.lst [] .full]]++[[.int .i64 4,.str (plV j),.str (plV (j+1)),.str [],.str [102],.lst [] .full,.lst [] .full,.lst [] .full]]:=by
 have h1:kI (j+2)=2 * j+1+1+1:=by unfold kI;rw[if_neg (by omega)];omega
 have h2:plAt (2 * j+1)=.nw (plV (j+1)):=by
  unfold plAt
  rw[if_pos (by omega),show (2 * j+1+1) / 2=j+1 by omega]
 have h3:plAt (2 * j+1+1)=.st (plV j) (plV (j+1)) [102]:=by
  unfold plAt
  rw[if_neg (by omega),show (2 * j+1+1) / 2=j+1 by omega,Nat.add_sub_cancel]
 rw[h1,bodyF_succ,bodyF_succ,h2,h3]
 rfl
theorem own_flip {s:St}{o o2:Own}{T sz n m:Nat}(h:OwnOk (s.own o2 T sz n) o m)(h2:OwnOk s o2 n):OwnOk (s.own o T sz m) o2 n:=by
 cases o2 with
 |at_ x=>
  simp only[OwnOk]at h2 ⊢
  rw[own_fr]
  refine⟨?_,h2⟩
  cases o with
  |at_ y=>
   simp only[OwnOk]at h
   rw[own_fr]at h
   simp only[NotOwn]at h ⊢
   exact fun e=>h.1 e.symm
  |_=>trivial
 |_=>exact h2
theorem own_swap2 {s:St}{o1 o2:Own}{T2 z2 T1 z1 n1 n2:Nat}(h:OwnOk (s.own o2 T2 z2 n2) o1 n1)(h2:OwnOk s o2 n2):(s.own o2 T2 z2 n2).own o1 T1 z1 n1=(s.own o1 T1 z1 n1).own o2 T2 z2 n2:=by
 cases o1 with
 |at_ y=>
  cases o2 with
  |at_ x=>
   simp only[OwnOk]at h
   rw[own_fr]at h
   have hne:y≠x:=by have:=h.1;simpa [NotOwn]using this
   funext z
   show (s.set x _).set y _ z=(s.set y _).set x _ z
   by_cases h1:z=x
   ·subst h1;rw[St.set_other _ _ (Ne.symm hne),St.set_same,St.set_same]
   ·by_cases h2:z=y
    ·subst h2;rw[St.set_same,St.set_other _ _ h1,St.set_same]
    ·rw[St.set_other _ _ h2,St.set_other _ _ h1,St.set_other _ _ h1,St.set_other _ _ h2]
  |_=>rfl
 |_=>rfl
theorem body_src (n:Nat):bodyF (2 * n - 1)=(plS n).map slF:=rfl
theorem slF_wk (x:Sl):WkL (slF x) (stC x.stm):=by
 rw[stC_sl]
 cases x with
 |nw v=>exact .same _ (.same _ (.same _ (.same _ (.same _ (.lst _ _ (.lst _ _ (.lst _ _ .nil)))))))
 |st d s f=>exact .same _ (.same _ (.same _ (.same _ (.same _ (.lst _ _ (.lst _ _ (.lst _ _ .nil)))))))
theorem body_wk (n:Nat)(o:Own):Wk (.lst (bodyF (2 * n - 1)) o) (.lst (stsC ((plS n).map Sl.stm)) .no):=fun G v h=>by
 rw[body_src]at h
 have h2:R G v (.lst (stsC ((plS n).map Sl.stm)) o):=Wk.rows (by rw[stsC_sll,List.length_map]) (fun i x' hx=>by
  rw[stsC_map,List.getElem?_map,List.getElem?_map]at hx
  cases hy:(plS n)[i]? with
  |none=>rw[hy]at hx;cases hx
  |some x=>
   rw[hy]at hx
   simp only[Option.map_some,Option.some.injEq]at hx
   subst hx
   exact⟨slF x,by rw[List.getElem?_map,hy];rfl,slF_wk x⟩) G v h
 exact R.unown h2
theorem src_wkK {B S:List (List VV)}{o2:Own}(h:Wk (.lst B o2) (.lst S .no)):Wk (.lst [[.str [77,97,105,110],.str [],.lst [[.bool true,.str [109,97,105,110],.lst [] .full,.lst B o2]] .no]] .no) (.lst [[.str [77,97,105,110],.str [],.lst [[.bool true,.str [109,97,105,110],.lst [] .no,.lst S .no]] .no]] .no):=by
 refine Wk.rowsG rfl fun i x' hx=>?_
 match i,hx with
 |0,hx=>
  simp only[List.getElem?_cons_zero,Option.some.injEq]at hx
  subst hx
  refine⟨_,rfl,rfl,fun j y' hy=>?_⟩
  match j,hy with
  |0,hy=>exact⟨_,rfl,by simp at hy;subst hy;exact Wk.refl _,by simp at hy;subst hy;exact id⟩
  |1,hy=>exact⟨_,rfl,by simp at hy;subst hy;exact Wk.refl _,by simp at hy;subst hy;exact id⟩
  |2,hy=>
   simp only[List.getElem?_cons_succ,List.getElem?_cons_zero,Option.some.injEq]at hy
   subst hy
   refine⟨_,rfl,Wk.rowsG rfl fun i x' hx=>?_,fun _=>rfl⟩
   match i,hx with
   |0,hx=>
    simp only[List.getElem?_cons_zero,Option.some.injEq]at hx
    subst hx
    refine⟨_,rfl,rfl,fun j y' hy=>?_⟩
    match j,hy with
    |0,hy=>exact⟨_,rfl,by simp at hy;subst hy;exact Wk.refl _,by simp at hy;subst hy;exact id⟩
    |1,hy=>exact⟨_,rfl,by simp at hy;subst hy;exact Wk.refl _,by simp at hy;subst hy;exact id⟩
    |2,hy=>exact⟨_,rfl,by simp at hy;subst hy;exact Wk.lst _ _,by simp at hy;subst hy;exact id⟩
    |3,hy=>exact⟨_,rfl,by simp at hy;subst hy;exact h,by simp at hy;subst hy;exact fun _=>rfl⟩
    |j+4,hy=>simp at hy
   |i+1,hx=>simp at hx
  |j+3,hy=>simp at hy
 |i+1,hx=>simp at hx
attribute [local go_sem] disown_fl owned_fl own_fl owned_oth disown_other
set_option maxHeartbeats 16000000 in
theorem StepPlain_S (many most:Int)(t:St):SRet Tryz.prog 3 [.int .i64 many,.int .i64 most] t (.bool true) t:=by
 obtain⟨e1,hE1,he1⟩:∃e:Nat,bAnd .i64 many 255=(e:Int)∧e≤255:=by
  have h2:bAnd .i64 many 255=many % 256:=bAnd_low many 8 (by omega)
  exact⟨(many % 256).toNat,by rw[h2];omega,by omega⟩
 obtain⟨m,hE2,hm⟩:∃e:Nat,bAnd .i64 most 255=(e:Int)∧e≤255:=by
  have h2:bAnd .i64 most 255=most % 256:=bAnd_low most 8 (by omega)
  exact⟨(most % 256).toNat,by rw[h2];omega,by omega⟩
 refine G_enter Tryz.func3 rfl Tryz.ntmps3 rfl fun Q hQ hQe=>?_
 (repeat'(first|refine Ctl ?_|((with_reducible refine Kof.use hK ?_);clear hK hE K E)|((with_reducible refine Eof.use hE ?_);(try clear hK hE K E))|((with_reducible refine W_cond (fun h=>?_) (fun h=>?_))<;>(try(exfalso;first|assumption|omega)))|((first|(with_reducible first|refine G_region fun K E hK hE=>?_|refine call_ret can5 (SameRows_S _ _ _ _ (by assumption) (by assumption) _) ?_|refine W_if ?_|refine W_ifS ?_|refine W_and ?_)|((with_reducible refine W_fresh (fun b hb=>?_));(repeat(obtain⟨_,hb⟩:=hb)))|((with_reducible refine W_app (fun o2 ho=>?_));(try simp(disch:=assumption) only[disown_set,disown_own,ownok_o,ownok_m,List.length_map,List.length_cons,List.length_nil,Nat.zero_add,hE1,hE2]at ho);(repeat(obtain⟨_,ho⟩:=ho)))|((with_reducible refine W_appM (fun bM hM=>?_)))|((with_reducible refine W_app0 (fun bM hM=>?_)))|((with_reducible refine W_gd (fun h=>?_) (fun h=>?_))<;>(try(exfalso;first|assumption|omega))))<;>(try simp(disch:=first|assumption|omega) only[go_sem,seval,hE1,hE2, *]))))
 intro bm hbm
 (repeat'(first|refine Ctl ?_|((with_reducible refine Kof.use hK ?_);clear hK hE K E)|((with_reducible refine Eof.use hE ?_);(try clear hK hE K E))|((with_reducible refine W_cond (fun h=>?_) (fun h=>?_))<;>(try(exfalso;first|assumption|omega)))|((first|(with_reducible first|refine G_region fun K E hK hE=>?_|refine call_ret can5 (SameRows_S _ _ _ _ (by assumption) (by assumption) _) ?_|refine W_if ?_|refine W_ifS ?_|refine W_and ?_)|((with_reducible refine W_fresh (fun b hb=>?_));(repeat(obtain⟨_,hb⟩:=hb)))|((with_reducible refine W_app (fun o2 ho=>?_));(try simp(disch:=assumption) only[disown_set,disown_own,ownok_o,ownok_m,List.length_map,List.length_cons,List.length_nil,Nat.zero_add,hE1,hE2]at ho);(repeat(obtain⟨_,ho⟩:=ho)))|((with_reducible refine W_appM (fun bM hM=>?_)))|((with_reducible refine W_app0 (fun bM hM=>?_)))|((with_reducible refine W_gd (fun h=>?_) (fun h=>?_))<;>(try(exfalso;first|assumption|omega))))<;>(try simp(disch:=first|assumption|omega) only[go_sem,seval,hE1,hE2, *]))))
 obtain⟨x7,hx7⟩:∃z,z=b:=⟨_,rfl⟩
 subst hx7
 refine Kp_nameK fun T hT=>?_
 have zb:T bm=.row 25 4 [.bool true,.str [109,97,105,110],.lst [] .full,.lst [] .full]:=by rw[hT,St.set_other _ _ (by assumption)];exact St.set_same _ _ _
 have z7:T x7=.obj 31 [.lst [[.str [77,97,105,110],.str [],.mrw bm 1]] .full]:=by rw[hT];exact St.set_same _ _ _
 have HT:Hid (∀z,t z≠.free→T z=t z∧z≠x7∧z≠bm):=Lib.hid fun z hz=>⟨by rw[hT,St.set_other _ _ (liveK hz hb),St.set_other _ _ (liveK hz hbm)],liveK hz hb,liveK hz hbm⟩
 obtain⟨n,hn⟩:∃n:Nat,n=1+e1 % 40:=⟨_,rfl⟩
 have HN:=Lib.hid hn
 have hn40:n≤40:=by omega
 have hn0:0<n:=by omega
 clear hT hb hbm
 refine G_loop (fun k env s'=>∃(i:Nat) (o2:Own),i≤n∧k+i=n∧OwnOk T o2 (kI i)∧s'=T.own o2 34 8 (kI i)∧env 5=.int .i64 (n:Int)∧env 6=.int .i64 (m:Int)∧env 7=.ptr x7 0∧env 8=.lst (bodyF (kI i)) o2∧env 9=.int .i64 i) n ?_ ?_
 ·refine⟨_,Fg.refl _,0,.full,by omega,by omega,(show OwnOk T .full 0 from rfl),rfl,?_,z_sl,z_sl,z_sl,z_sl⟩
  have hv:IntKind.i64.wrap (1+(e1:Int).tmod 40)=(n:Int):=by
   rw[IntKind.wrap_i64,Int.tmod_eq_emod_of_nonneg (by omega)]
   omega
  clear hn
  ((try simp(disch:=first|assumption|omega) only[go_sem,seval, *])<;>first|rfl|omega)
 clear hn
 rintro k env s' ⟨i,o2,hi,hki,hO,rfl,e5,e6,e7,e8,e9⟩
 by_cases hlt:i<n
 ·have hbl:=bodyF_len (k:=kI i)
  obtain⟨c1,c2,hc1,hc2,hcv⟩:=pl_bytes (i:=i) (by omega)
  cases i with
  |zero=>
   have hB1:bodyF (kI 1)=[[.int .i64 1,.str (plV 0),.str [],.str [],.str [77,97,105,110],.lst [] .full,.lst [] .full,.lst [] .full]]:=rfl
   have hB0:bodyF (kI 0)=[]:=rfl
   have hk0:kI 0=0:=rfl
   rw[hB0]at e8
   rw[hk0]at hO
   have HB:=Lib.hid hB1
   have h97:IntKind.u8.wrap 97=97:=by decide
   have hcv0:[[VV.int .u8 118],[VV.int .u8 97],[VV.int .u8 97]]=bytesV (plV 0):=rfl
   clear hB1 hB0 hbl hc1 hc2 hcv
   (repeat'(first|refine Ctl ?_|((with_reducible refine Kof.use hK ?_);clear hK hE K E)|((with_reducible refine Eof.use hE ?_);(try clear hK hE K E))|((with_reducible refine W_cond (fun h=>?_) (fun h=>?_))<;>(try(exfalso;first|assumption|omega)))|((first|(with_reducible first|refine G_region fun K E hK hE=>?_|refine call_ret can5 (SameRows_S _ _ _ _ (by assumption) (by assumption) _) ?_|refine W_if ?_|refine W_ifS ?_|refine W_and ?_)|((with_reducible refine W_fresh (fun b hb=>?_));(repeat(obtain⟨_,hb⟩:=hb)))|((with_reducible refine W_app (fun o2 ho=>?_));(try simp(disch:=assumption) only[disown_set,disown_own,ownok_o,ownok_m,List.length_map,List.length_cons,List.length_nil,Nat.zero_add,h97,hcv0,hk0]at ho);(repeat(obtain⟨_,ho⟩:=ho)))|((with_reducible refine W_appM (fun bM hM=>?_)))|((with_reducible refine W_app0 (fun bM hM=>?_)))|((with_reducible refine W_gd (fun h=>?_) (fun h=>?_))<;>(try(exfalso;first|assumption|omega))))<;>(try simp(disch:=first|assumption|omega) only[go_sem,seval,h97,hcv0,hk0, *]))))
   exact⟨_,Fg.refl _,k - 1,by omega,1,o2,by omega,by omega,ho,rfl,z_sl,z_sl,z_sl,by rw[HB.out];((try simp(disch:=first|assumption|omega) only[go_sem,seval, *])<;>first|rfl|omega),z_sl⟩
  |succ j=>
   obtain⟨d1,d2,hd1,hd2,hdv⟩:=pl_bytes (i:=j) (by omega)
   have hB1:=bodyF_two j
   have hkj:kI (j+1)=2 * j+1:=by unfold kI;rw[if_neg (by omega)];omega
   rw[hkj]at hO e8 hbl ⊢
   have HB:=Lib.hid hB1
   generalize bodyF (2 * j+1)=B at *
   have hbl2:∀x:List VV,(B++[x]).length=2 * j+1+1:=fun x=>by simp[hbl]
   clear hB1
   (repeat'(first|refine Ctl ?_|((with_reducible refine Kof.use hK ?_);clear hK hE K E)|((with_reducible refine Eof.use hE ?_);(try clear hK hE K E))|((with_reducible refine W_cond (fun h=>?_) (fun h=>?_))<;>(try(exfalso;first|assumption|omega)))|((first|(with_reducible first|refine G_region fun K E hK hE=>?_|refine call_ret can5 (SameRows_S _ _ _ _ (by assumption) (by assumption) _) ?_|refine W_if ?_|refine W_ifS ?_|refine W_and ?_)|((with_reducible refine W_fresh (fun b hb=>?_));(repeat(obtain⟨_,hb⟩:=hb)))|((with_reducible refine W_app (fun o2 ho=>?_));(try simp(disch:=assumption) only[disown_set,disown_own,ownok_o,ownok_m,List.length_map,List.length_cons,List.length_nil,Nat.zero_add,hc1,hc2,hcv,hd1,hd2,hdv,hbl,hbl2]at ho);(repeat(obtain⟨_,ho⟩:=ho)))|((with_reducible refine W_appM (fun bM hM=>?_)))|((with_reducible refine W_app0 (fun bM hM=>?_)))|((with_reducible refine W_gd (fun h=>?_) (fun h=>?_))<;>(try(exfalso;first|assumption|omega))))<;>(try simp(disch:=first|assumption|omega) only[go_sem,seval,hc1,hc2,hcv,hd1,hd2,hdv,hbl,hbl2, *]))))
   have hk2:kI (j+2)=2 * j+1+1+1:=by unfold kI;rw[if_neg (by omega)];omega
   exact⟨_,Fg.refl _,k - 1,by omega,j+2,o2,by omega,by omega,by rw[hk2];exact ho,by rw[hk2],z_sl,z_sl,z_sl,by rw[HB.out];((try simp(disch:=first|assumption|omega) only[go_sem,seval, *])<;>first|rfl|omega),z_sl⟩
 ·obtain rfl:i=n:=by omega
  have hkn:kI i=2 * i - 1:=by unfold kI;rw[if_neg (by omega)]
  have hbn:=body_src i
  rw[hkn]at hO e8 ⊢
  have hnx:NotOwn o2 x7:=hO.not (by rw[z7];simp)
  have hnb:NotOwn o2 bm:=hO.not (by rw[zb];simp)
  have hnbx:¬ x7=bm:=by assumption
  have hbl:=bodyF_len (k:=2 * i - 1)
  have HW:=Lib.hid (body_wk i o2)
  generalize bodyF (2 * i - 1)=B at *
  have HO:=Lib.hid hO
  clear hkn hbn
  (repeat'(first|(with_reducible refine Kp_atK 13 ?_)|refine Ctl ?_|((with_reducible refine Kof.use hK ?_);clear hK hE K E)|((with_reducible refine Eof.use hE ?_);(try clear hK hE K E))|((with_reducible refine W_cond (fun h=>?_) (fun h=>?_))<;>(try(exfalso;first|assumption|omega)))|((first|(with_reducible first|refine G_region fun K E hK hE=>?_|refine call_ret can5 (SameRows_S _ _ _ _ (by assumption) (by assumption) _) ?_|refine W_if ?_|refine W_ifS ?_|refine W_and ?_)|((with_reducible refine W_fresh (fun b hb=>?_));(repeat(obtain⟨_,hb⟩:=hb)))|((with_reducible refine W_app (fun o2 ho=>?_));(repeat(obtain⟨_,ho⟩:=ho)))|((with_reducible refine W_appM (fun bM hM=>?_)))|((with_reducible refine W_app0 (fun bM hM=>?_)))|((with_reducible refine W_gd (fun h=>?_) (fun h=>?_))<;>(try(exfalso;first|assumption|omega))))<;>(try simp(disch:=first|assumption|omega) only[go_sem,seval, *]))))
  unfold StopK
  refine Kp_wkt 8 (y:=.lst B .no) (z_sl) (Wk.lst _ _) ?_
  refine Kp_forget (s':=T.set bm (.row 25 4 [.bool true,.str [109,97,105,110],.lst [] .full,.lst B o2])) (fg_ownset (fun z _=>rfl) HO.out) ?_
  have hz7:(T.set bm (.row 25 4 [.bool true,.str [109,97,105,110],.lst [] .full,.lst B o2])) x7=.obj 31 [.lst [[.str [77,97,105,110],.str [],.mrw bm 1]] .full]:=by rw[St.set_other _ _ hnbx];exact z7
  have hg:=GSg.frzL (i:=0) (ys:=[[.bool true,.str [109,97,105,110],.lst [] .full,.lst B o2]]) (sz:=4) (n:=1) (l':=[[.str [77,97,105,110],.str [],.lst [[.bool true,.str [109,97,105,110],.lst [] .full,.lst B o2]] .no]]) hz7 rfl (St.set_same _ _ _) rfl (by simp) rfl (fun j x' hx=>by
   match j,hx with
   |0,hx=>
    simp only[List.getElem?_cons_zero,Option.some.injEq]at hx
    subst hx
    refine⟨_,rfl,rfl,fun k y' hk=>?_⟩
    match k,hk with
    |0,hk=>exact⟨_,rfl,.inl (by simpa using hk.symm)⟩
    |1,hk=>exact⟨_,rfl,.inl (by simpa using hk.symm)⟩
    |2,hk=>exact⟨_,rfl,.inr ⟨rfl,by simpa using hk.symm⟩⟩
    |k+3,hk=>simp at hk
   |j+1,hx=>simp at hx)
  refine Kp_gsg hg ?_
  simp only[St.set_set,List.set_cons_zero]
  refine Kp_gs (GS.wkobj (ys:=[.lst ((slX (plS i)).map clsC) .no]) (St.set_same _ _ _) rfl (fun j z hz=>by
   match j,hz with
   |0,hz=>
    simp only[List.getElem?_cons_zero,Option.some.injEq]at hz
    subst hz
    exact⟨_,rfl,src_wkK HW.out,fun _=>rfl⟩
   |j+1,hz=>simp at hz)) ?_
  simp only[St.set_set]
  refine Kp_nameK fun U hU=>?_
  have y7:U x7=.obj 31 [.lst ((slX (plS i)).map clsC) .no]:=by rw[hU];exact St.set_same _ _ _
  have HU:Hid (∀z,t z≠.free→U z=t z):=Lib.hid fun z hz=>by
   obtain⟨a1,a2,a3⟩:=HT.out z hz
   rw[hU,St.set_other _ _ a2,St.set_other _ _ a3,a1]
  have hok:=pl_ok hn40 hn0
  obtain⟨hV,hM,_⟩:=pl_names i (by omega) hn0
  have hF:=pl_fields i (by omega) hn0
  have w1:=fun o s=>Krun_S (plS i) (m:Int) o (pl_srcok hn40) (pl_right i (by omega) hn0) hM (by rw[hV,hF];exact hok) (by omega) (by omega) (by rw[hV];simp[plU,plW];omega) (by rw[hF];unfold plFl;split<;>simp) s
  obtain⟨M,hMin⟩:∃M:Nat,min (2 * i - 1) m=M:=⟨_,rfl⟩
  have hMm:min (plS i).length ((m:Nat):Int).toNat=M:=by rw[plS_len,Int.toNat_natCast];exact hMin
  have hMle:M≤2 * i - 1:=by omega
  rw[hMm,hV,hF,plR_run2 hn40 hn0 M hMle,(pl_seen M).1,(pl_seen M).2,plF_sort,plG_sort,plS_len]at w1
  simp only[srcV]at w1
  generalize (slX (plS i)).map clsC=X at *
  have w2:=awake17_S
  clear hU hg hz7 HT HW HO hO hnx hnb zb z7 e9 hki hi hlt hok hV hM hF
  have fx:U x7≠.free:=by rw[y7];simp
  have hmm:vminmax false (VV.int .i64 (m:Int)) (VV.int .i64 ((2 * i - 1:Nat):Int))=some (.int .i64 (M:Int)):=by
   simp only[vminmax,if_true,Bool.false_eq_true,if_false]
   rw[← hMin]
   split<;>(congr 2;omega)
  have HMI:=Lib.hid hMin
  clear hMin hMm
  (repeat'(first|refine Ctl ?_|((with_reducible refine Kof.use hK ?_);clear hK hE K E)|((with_reducible refine Eof.use hE ?_);(try clear hK hE K E))|((with_reducible refine W_cond (fun h=>?_) (fun h=>?_))<;>(try(exfalso;first|assumption|omega)))|((first|(with_reducible first|refine G_region fun K E hK hE=>?_|refine call_ret can4 ((w1 _ _)) ?_|refine call_ret can5 (SameRows_S _ _ _ _ (by assumption) (by assumption) _) ?_|refine W_if ?_|refine W_ifS ?_|refine W_and ?_)|((with_reducible refine W_fresh (fun b hb=>?_));(repeat(obtain⟨_,hb⟩:=hb));(try((obtain⟨_,_⟩:=nef hb fx))))|((with_reducible refine W_app (fun o2 ho=>?_));(try simp(disch:=assumption) only[disown_set,disown_own,ownok_o,ownok_m,List.length_map,List.length_cons,List.length_nil,Nat.zero_add,hbl,hmm]at ho);(repeat(obtain⟨_,ho⟩:=ho)))|((with_reducible refine W_appM (fun bM hM=>?_)))|((with_reducible refine W_app0 (fun bM hM=>?_)))|((with_reducible refine W_gd (fun h=>?_) (fun h=>?_))<;>(try(exfalso;first|assumption|omega))))<;>(try simp(disch:=first|assumption|omega) only[go_sem,seval,hbl,hmm, *]))))
  obtain⟨x12,hx12⟩:∃z,z=b:=⟨_,rfl⟩
  subst hx12
  refine Kp_nameK fun W hW=>?_
  have v12:W x12=.obj 37 [.lst (rowsV ((List.range (plN M)).map plF)) .no,.lst (rowsV ((List.range (plB M)).map plG)) .no,.lst [] .no,.lst (rowsV ((List.range (plN M)).map plF)) .no,.int .i64 (M:Int),.bool !(decide (m<2 * i - 1))]:=by rw[hW];exact St.set_same _ _ _
  have HWt:Hid (∀z,t z≠.free→W z=t z):=Lib.hid fun z hz=>by
   rw[hW,St.set_other _ _ (liveK (by rw[HU.out z hz];exact hz) hb)];exact HU.out z hz
  clear hW fx y7 HU hb w1
  refine G_loop (fun k env s'=>∃(j:Nat) (oa ob:Own),j≤i∧k+j=i∧OwnOk W oa (plP M j)∧OwnOk (W.own oa 41 1 (plP M j)) ob (plQ M j)∧s'=(W.own oa 41 1 (plP M j)).own ob 41 1 (plQ M j) ∧
   env 5=.int .i64 (i:Int)∧env 6=.int .i64 (m:Int)∧env 8=.lst B .no∧env 12=.ptr x12 0∧env 13=.int .i64 0∧env 14=.int .i64 (M:Int)∧env 15=.lst (rowsVf ((List.range (plP M j)).map plF)) oa∧env 16=.lst (rowsVf ((List.range (plQ M j)).map plG)) ob∧env 17=.int .i64 (j:Int)) i ?_ ?_
  ·have hp:plP M 0=0:=by unfold plP;omega
   have hq:plQ M 0=0:=by unfold plQ;omega
   refine⟨_,Fg.refl _,0,.full,.full,by omega,by omega,by rw[hp];rfl,by rw[hq];rfl,rfl,z_sl,z_sl,z_sl,z_sl,z_sl,z_sl,by rw[hp];((try simp(disch:=first|assumption|omega) only[go_sem,seval, *])<;>first|rfl|omega),by rw[hq];((try simp(disch:=first|assumption|omega) only[go_sem,seval, *])<;>first|rfl|omega),z_sl⟩
  clear e5 e6 e7 e8
  rintro k env s' ⟨j,oa,ob,hj,hkj,hoa,hob,rfl,e5,e6,e8,e12,e13,e14,e15,e16,e17⟩
  by_cases hlt:j<i
  ·have hla:(rowsVf ((List.range (plP M j)).map plF)).length=plP M j:=by simp[rowsVf]
   have hlb:(rowsVf ((List.range (plQ M j)).map plG)).length=plQ M j:=by simp[rowsVf]
   have hpl:plP M j≤40:=by unfold plP;omega
   have hql:plQ M j≤40:=by unfold plQ;omega
   by_cases h1:2 * j<M+1∧(0<j∨0<M)
   ·have hP1:plP M (j+1)=plP M j+1:=by unfold plP plN;split<;>omega
    have HVA:Hid (rowsVf ((List.range (plP M (j+1))).map plF)=rowsVf ((List.range (plP M j)).map plF)++[[.lst [[.int .i64 ((1+j:Nat):Int)],[.int .i64 (j:Int)]] .full]]):=Lib.hid (by rw[plP_yes h1.1 h1.2,rowsVf_snoc];rfl)
    by_cases h2:0<j∧2 * j<M
    ·have hQ1:plQ M (j+1)=plQ M j+1:=by unfold plQ plB;omega
     have HVB:Hid (rowsVf ((List.range (plQ M (j+1))).map plG)=rowsVf ((List.range (plQ M j)).map plG)++[[.lst [[.int .i64 ((j:Int) - 1)],[.int .i64 0],[.int .i64 (j:Int)]] .full]]):=Lib.hid (by
      have ec:((j - 1:Nat):Int)=(j:Int) - 1:=by omega
      have ec2:((j - 1+1:Nat):Int)=(j:Int):=by omega
      rw[plQ_yes h2.1 h2.2,rowsVf_snoc,← ec,← ec2];rfl)
     have HP1:=Lib.hid hP1
     have HQ1:=Lib.hid hQ1
     clear hP1 hQ1
     generalize rowsVf ((List.range (plP M j)).map plF)=VA at *
     generalize rowsVf ((List.range (plQ M j)).map plG)=VB at *
     have hob0:=hob.fg (Fg.own hoa)
     obtain⟨h1a,h1b⟩:=h1
     obtain⟨h2a,h2b⟩:=h2
     (repeat'(first|refine Ctl ?_|((with_reducible refine Kof.use hK ?_);clear hK hE K E)|((with_reducible refine Eof.use hE ?_);(try clear hK hE K E))|((with_reducible refine W_cond (fun h=>?_) (fun h=>?_))<;>(try(exfalso;first|assumption|omega)))|((first|(with_reducible first|refine G_region fun K E hK hE=>?_|refine call_ret can5 (SameRows_S _ _ _ _ (by assumption) (by assumption) _) ?_|refine W_if ?_|refine W_ifS ?_|refine W_and ?_)|((with_reducible refine W_fresh (fun b hb=>?_));(repeat(obtain⟨_,hb⟩:=hb)))|((with_reducible refine W_app (fun o2 ho=>?_));(try simp(disch:=assumption) only[disown_set,disown_own,ownok_o,ownok_m,List.length_map,List.length_cons,List.length_nil,Nat.zero_add,hla,hlb]at ho);(repeat(obtain⟨_,ho⟩:=ho));(try(((try rw[disown_other hob hoa]at ho);(try rw[disown_other (by assumption) hob0]at ho)))))|((with_reducible refine W_appM (fun bM hM=>?_));(try(((try rw[disown_other hob hoa]at ho);(try rw[disown_other (by assumption) hob0]at ho)))))|((with_reducible refine W_app0 (fun bM hM=>?_));(try(((try rw[disown_other hob hoa]at ho);(try rw[disown_other (by assumption) hob0]at ho)))))|((with_reducible refine W_gd (fun h=>?_) (fun h=>?_))<;>(try(exfalso;first|assumption|omega))))<;>(try simp(disch:=first|assumption|omega) only[go_sem,seval,hla,hlb, *]))))
     rename_i oa' hoa'
     exact⟨(W.own oa' 41 1 (plP M (j+1))).own o2 41 1 (plQ M (j+1)),by rw[HP1.out,HQ1.out];exact Fg.refl _,k - 1,by omega,j+1,oa',o2,by omega,by omega,by rw[HP1.out];exact hoa'.fg (Fg.own hob0),by rw[HP1.out,HQ1.out];exact ho,rfl,z_sl,z_sl,z_sl,z_sl,z_sl,z_sl,by rw[HVA.out];((try simp(disch:=first|assumption|omega) only[go_sem,seval, *])<;>first|rfl|omega),by rw[HVB.out];((try simp(disch:=first|assumption|omega) only[go_sem,seval, *])<;>first|rfl|omega),z_sl⟩
    ·have hQ1:plQ M (j+1)=plQ M j:=plQ_no h2
     have HP1:=Lib.hid hP1
     rw[← hQ1]at hob e16 hlb hql ⊢
     clear hP1 hQ1
     generalize rowsVf ((List.range (plP M j)).map plF)=VA at *
     generalize hVB:rowsVf ((List.range (plQ M (j+1))).map plG)=VB at *
     have HVB:=Lib.hid hVB
     clear hVB
     have hob0:=hob.fg (Fg.own hoa)
     obtain⟨h1a,h1b⟩:=h1
     (repeat'(first|refine Ctl ?_|((with_reducible refine Kof.use hK ?_);clear hK hE K E)|((with_reducible refine Eof.use hE ?_);(try clear hK hE K E))|((with_reducible refine W_cond (fun h=>?_) (fun h=>?_))<;>(try(exfalso;first|assumption|omega)))|((first|(with_reducible first|refine G_region fun K E hK hE=>?_|refine call_ret can5 (SameRows_S _ _ _ _ (by assumption) (by assumption) _) ?_|refine W_if ?_|refine W_ifS ?_|refine W_and ?_)|((with_reducible refine W_fresh (fun b hb=>?_));(repeat(obtain⟨_,hb⟩:=hb)))|((with_reducible refine W_app (fun o2 ho=>?_));(try simp(disch:=assumption) only[disown_set,disown_own,ownok_o,ownok_m,List.length_map,List.length_cons,List.length_nil,Nat.zero_add,hla,hlb]at ho);(repeat(obtain⟨_,ho⟩:=ho));(try(((try rw[disown_other hob hoa]at ho);(try rw[disown_other (by assumption) hob0]at ho)))))|((with_reducible refine W_appM (fun bM hM=>?_));(try(((try rw[disown_other hob hoa]at ho);(try rw[disown_other (by assumption) hob0]at ho)))))|((with_reducible refine W_app0 (fun bM hM=>?_));(try(((try rw[disown_other hob hoa]at ho);(try rw[disown_other (by assumption) hob0]at ho)))))|((with_reducible refine W_gd (fun h=>?_) (fun h=>?_))<;>(try(exfalso;first|assumption|omega))))<;>(try simp(disch:=first|assumption|omega) only[go_sem,seval,hla,hlb, *]))))
     all_goals exact⟨(W.own o2 41 1 (plP M (j+1))).own ob 41 1 (plQ M (j+1)),by rw[HP1.out,own_swap2 ho hob0];exact Fg.refl _,k - 1,by omega,j+1,o2,ob,by omega,by omega,by rw[HP1.out];exact ho.fg (Fg.own hob0),by rw[HP1.out];exact own_flip ho hob0,rfl,z_sl,z_sl,z_sl,z_sl,z_sl,z_sl,by rw[HVA.out];((try simp(disch:=first|assumption|omega) only[go_sem,seval, *])<;>first|rfl|omega),by rw[HVB.out];((try simp(disch:=first|assumption|omega) only[go_sem,seval, *])<;>first|rfl|omega),z_sl⟩
   ·have hQ1:plQ M (j+1)=plQ M j:=plQ_no (fun h=>h1 ⟨by omega,.inl h.1⟩)
    have hP1:plP M (j+1)=plP M j:=plP_no h1
    rw[← hQ1]at hob e16 hlb hql ⊢
    rw[← hP1]at hoa hob e15 hla hpl ⊢
    clear hP1 hQ1
    generalize hVA:rowsVf ((List.range (plP M (j+1))).map plF)=VA at *
    generalize hVB:rowsVf ((List.range (plQ M (j+1))).map plG)=VB at *
    have HVA:=Lib.hid hVA
    have HVB:=Lib.hid hVB
    have hob0:=hob.fg (Fg.own hoa)
    clear hVA hVB
    by_cases hj0:j=0
    ·have hM0:M=0:=by omega
     subst hj0
     subst hM0
     (repeat'(first|refine Ctl ?_|((with_reducible refine Kof.use hK ?_);clear hK hE K E)|((with_reducible refine Eof.use hE ?_);(try clear hK hE K E))|((with_reducible refine W_cond (fun h=>?_) (fun h=>?_))<;>(try(exfalso;first|assumption|omega)))|((first|(with_reducible first|refine G_region fun K E hK hE=>?_|refine call_ret can5 (SameRows_S _ _ _ _ (by assumption) (by assumption) _) ?_|refine W_if ?_|refine W_ifS ?_|refine W_and ?_)|((with_reducible refine W_fresh (fun b hb=>?_));(repeat(obtain⟨_,hb⟩:=hb)))|((with_reducible refine W_app (fun o2 ho=>?_));(try simp(disch:=assumption) only[disown_set,disown_own,ownok_o,ownok_m,List.length_map,List.length_cons,List.length_nil,Nat.zero_add,hla,hlb]at ho);(repeat(obtain⟨_,ho⟩:=ho));(try(((try rw[disown_other hob hoa]at ho);(try rw[disown_other (by assumption) hob0]at ho)))))|((with_reducible refine W_appM (fun bM hM=>?_));(try(((try rw[disown_other hob hoa]at ho);(try rw[disown_other (by assumption) hob0]at ho)))))|((with_reducible refine W_app0 (fun bM hM=>?_));(try(((try rw[disown_other hob hoa]at ho);(try rw[disown_other (by assumption) hob0]at ho)))))|((with_reducible refine W_gd (fun h=>?_) (fun h=>?_))<;>(try(exfalso;first|assumption|omega))))<;>(try simp(disch:=first|assumption|omega) only[go_sem,seval,hla,hlb, *]))))
     all_goals exact⟨_,Fg.refl _,k - 1,by omega,1,oa,ob,by omega,by omega,hoa,hob,rfl,z_sl,z_sl,z_sl,z_sl,z_sl,z_sl,by rw[HVA.out];((try simp(disch:=first|assumption|omega) only[go_sem,seval, *])<;>first|rfl|omega),by rw[HVB.out];((try simp(disch:=first|assumption|omega) only[go_sem,seval, *])<;>first|rfl|omega),z_sl⟩
    ·have h3:¬ 2 * j<M+1:=fun h=>h1 ⟨h,.inl (by omega)⟩
     (repeat'(first|refine Ctl ?_|((with_reducible refine Kof.use hK ?_);clear hK hE K E)|((with_reducible refine Eof.use hE ?_);(try clear hK hE K E))|((with_reducible refine W_cond (fun h=>?_) (fun h=>?_))<;>(try(exfalso;first|assumption|omega)))|((first|(with_reducible first|refine G_region fun K E hK hE=>?_|refine call_ret can5 (SameRows_S _ _ _ _ (by assumption) (by assumption) _) ?_|refine W_if ?_|refine W_ifS ?_|refine W_and ?_)|((with_reducible refine W_fresh (fun b hb=>?_));(repeat(obtain⟨_,hb⟩:=hb)))|((with_reducible refine W_app (fun o2 ho=>?_));(try simp(disch:=assumption) only[disown_set,disown_own,ownok_o,ownok_m,List.length_map,List.length_cons,List.length_nil,Nat.zero_add,hla,hlb]at ho);(repeat(obtain⟨_,ho⟩:=ho));(try(((try rw[disown_other hob hoa]at ho);(try rw[disown_other (by assumption) hob0]at ho)))))|((with_reducible refine W_appM (fun bM hM=>?_));(try(((try rw[disown_other hob hoa]at ho);(try rw[disown_other (by assumption) hob0]at ho)))))|((with_reducible refine W_app0 (fun bM hM=>?_));(try(((try rw[disown_other hob hoa]at ho);(try rw[disown_other (by assumption) hob0]at ho)))))|((with_reducible refine W_gd (fun h=>?_) (fun h=>?_))<;>(try(exfalso;first|assumption|omega))))<;>(try simp(disch:=first|assumption|omega) only[go_sem,seval,hla,hlb, *]))))
     all_goals exact⟨_,Fg.refl _,k - 1,by omega,j+1,oa,ob,by omega,by omega,hoa,hob,rfl,z_sl,z_sl,z_sl,z_sl,z_sl,z_sl,by rw[HVA.out];((try simp(disch:=first|assumption|omega) only[go_sem,seval, *])<;>first|rfl|omega),by rw[HVB.out];((try simp(disch:=first|assumption|omega) only[go_sem,seval, *])<;>first|rfl|omega),z_sl⟩
  ·obtain rfl:j=i:=by omega
   rw[plP_end hMle hn0]at e15
   rw[plQ_end hMle hn0]at e16
   have ok1:RowsOk ((List.range (plN M)).map plF):=⟨by rw[List.length_map,List.length_range];unfold plN;split<;>omega,fun r hr=>by
    obtain⟨x,_,rfl⟩:=List.mem_map.1 hr
    simp[plF]⟩
   have ok2:RowsOk ((List.range (plB M)).map plG):=⟨by rw[List.length_map,List.length_range];unfold plB;omega,fun r hr=>by
    obtain⟨x,_,rfl⟩:=List.mem_map.1 hr
    simp[plG]⟩
   have w3:=fun s=>SameRows_S _ _ .no .no ok1 ok1 s
   have w4:=fun s=>SameRows_S _ _ .no .no ok2 ok2 s
   simp only[decide_true]at w3 w4
   refine Kp_wkt 15 (y:=.lst (rowsV ((List.range (plN M)).map plF)) .no) e15 rowsVf_wk ?_
   refine Kp_wkt 16 (y:=.lst (rowsV ((List.range (plB M)).map plG)) .no) (z_sl) rowsVf_wk ?_
   refine Kp_forget (s':=W) ((Fg.own hob).trans (Fg.own hoa)) ?_
   clear e15 e16 ok1 ok2 hob hoa
   generalize rowsV ((List.range (plN M)).map plF)=RF at *
   generalize rowsV ((List.range (plB M)).map plG)=RG at *
   have hff:(false == false)=true:=rfl
   have htt:(true == true)=true:=rfl
   by_cases hd:m<2 * j - 1
   ·have hdt:decide (m<2 * j - 1)=true:=decide_eq_true hd
    have hge:(((2 * j - 1:Nat):Int)≤(m:Int))=False:=eq_false (by omega)
    rw[hdt]at v12
    clear hdt
    (repeat'(first|refine Ctl ?_|((with_reducible refine Kof.use hK ?_);clear hK hE K E)|((with_reducible refine Eof.use hE ?_);(try clear hK hE K E))|((with_reducible refine W_cond (fun h=>?_) (fun h=>?_))<;>(try(exfalso;first|assumption|omega)))|((first|(with_reducible first|refine G_region fun K E hK hE=>?_|refine call_ret can5 (w3 _) ?_|refine call_ret can5 (w4 _) ?_|refine call_ret can6 (w2 _) ?_|refine call_ret can5 (SameRows_S _ _ _ _ (by assumption) (by assumption) _) ?_|refine W_if ?_|refine W_ifS ?_|refine W_and ?_)|((with_reducible refine W_fresh (fun b hb=>?_));(repeat(obtain⟨_,hb⟩:=hb)))|((with_reducible refine W_app (fun o2 ho=>?_));(try simp(disch:=assumption) only[disown_set,disown_own,ownok_o,ownok_m,List.length_map,List.length_cons,List.length_nil,Nat.zero_add,hbl,hge,hff,htt]at ho);(repeat(obtain⟨_,ho⟩:=ho)))|((with_reducible refine W_appM (fun bM hM=>?_)))|((with_reducible refine W_app0 (fun bM hM=>?_)))|((with_reducible refine W_gd (fun h=>?_) (fun h=>?_))<;>(try(exfalso;first|assumption|omega))))<;>(try simp(disch:=first|assumption|omega) only[go_sem,seval,hbl,hge,hff,htt, *]))))
    all_goals(first|refine W_ret res3 hQ ?_|refine W_norm res3 hQ ?_|refine G_pan hQ ?_)
    all_goals(refine⟨_,_,Wk.of_eq ?_,?_,rfl,rfl⟩)
    all_goals first|rfl|exact fgK HWt.out
   ·have hdt:decide (m<2 * j - 1)=false:=decide_eq_false hd
    have hge:(((2 * j - 1:Nat):Int)≤(m:Int))=True:=eq_true (by omega)
    rw[hdt]at v12
    clear hdt
    (repeat'(first|refine Ctl ?_|((with_reducible refine Kof.use hK ?_);clear hK hE K E)|((with_reducible refine Eof.use hE ?_);(try clear hK hE K E))|((with_reducible refine W_cond (fun h=>?_) (fun h=>?_))<;>(try(exfalso;first|assumption|omega)))|((first|(with_reducible first|refine G_region fun K E hK hE=>?_|refine call_ret can5 (w3 _) ?_|refine call_ret can5 (w4 _) ?_|refine call_ret can6 (w2 _) ?_|refine call_ret can5 (SameRows_S _ _ _ _ (by assumption) (by assumption) _) ?_|refine W_if ?_|refine W_ifS ?_|refine W_and ?_)|((with_reducible refine W_fresh (fun b hb=>?_));(repeat(obtain⟨_,hb⟩:=hb)))|((with_reducible refine W_app (fun o2 ho=>?_));(try simp(disch:=assumption) only[disown_set,disown_own,ownok_o,ownok_m,List.length_map,List.length_cons,List.length_nil,Nat.zero_add,hbl,hge,hff,htt]at ho);(repeat(obtain⟨_,ho⟩:=ho)))|((with_reducible refine W_appM (fun bM hM=>?_)))|((with_reducible refine W_app0 (fun bM hM=>?_)))|((with_reducible refine W_gd (fun h=>?_) (fun h=>?_))<;>(try(exfalso;first|assumption|omega))))<;>(try simp(disch:=first|assumption|omega) only[go_sem,seval,hbl,hge,hff,htt, *]))))
    all_goals(first|refine W_ret res3 hQ ?_|refine W_norm res3 hQ ?_|refine G_pan hQ ?_)
    all_goals(refine⟨_,_,Wk.of_eq ?_,?_,rfl,rfl⟩)
    all_goals first|rfl|exact fgK HWt.out
end Go.Proofs.YtadbggfpnhkmbaaGreat
