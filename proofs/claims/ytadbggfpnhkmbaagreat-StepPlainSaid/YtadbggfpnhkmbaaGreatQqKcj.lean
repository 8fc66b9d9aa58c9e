/- Walks of functions that the claim reaches, and plain facts of them. Conditions: those in the statements. -/
import Derived.Test.YtadbggfpnhkmbaaGreatQqPwj
import Derived.Test.YtadbggfpnhkmbaaGreatQqSgj
import Derived.Test.YtadbggfpnhkmbaaGreatQqYaj
import Derived.Lib.Hide
set_option linter.unusedSimpArgs false
set_option linter.unusedVariables false
set_option maxRecDepth 100000
namespace Go.Proofs.YtadbggfpnhkmbaaGreat
open Go.RowKit
def putK (r:List Int)(l:List (List Int)):List (List Int):=if r∈l then l else l++[r]
def ptrO:Option Nat→VV
 |none=>.raw (.pointer none)
 |some b=>.ptr b 0
def encQ (b:Nat):VV:=.ptr b 0
section
variable {b : Nat} {s : St}
theorem p_lkQ {a e sz bt sz2 bt2:Nat}{ok zo:Bool}{zz z2:List VV}{zo2:Bool}{t:List UInt8}{l:List (List UInt8×Nat)} :
  vlkC ⟨.map a e,sz,bt,zo,zz⟩ ⟨.ptr,1,8,true,[.raw (.pointer none)]⟩ ⟨.str,sz2,bt2,zo2,z2⟩ (.str t) ok (.map (mpV encQ l))=some (if ok then .tup [ptrO (lkA t l),.bool (lkA t l).isSome] else ptrO (lkA t l)):=by
 simp only[vlkC,kfit,mget_mpV]
 cases lkA t l with
 |none=>cases ok<;>rfl
 |some n=>cases ok<;>rfl
theorem p_upQ {a e sz bt sz2 bt2:Nat}{zo:Bool}{zz z2:List VV}{zo2:Bool}{t:List UInt8}{n:Nat}{l:List (List UInt8×Nat)} :
  vupC ⟨.map a e,sz,bt,zo,zz⟩ ⟨.str,sz2,bt2,zo2,z2⟩ b (.str t) (.ptr n 0) s (.map (mpV encQ l))=some (s.set b (.map (mpV encQ (ptA t n l)))):=by
 simp only[vupC,kfit]
 show (mput (.str t) (encQ n) (mpV encQ l)).map _=_
 rw[mput_mpV]
 rfl
end
def t3 (r:List Int):List UInt8:=r.flatMap fun n=>eightZ n 3
theorem t3_take {r:List Int}{i:Nat}{n:Int}(h:r[i]?=some n):t3 (r.take (i+1))=t3 (r.take i)++eightZ n 3:=by
 have h1:r.take (i+1)=r.take i++[n]:=by rw[List.take_add_one,h];rfl
 rw[h1]
 unfold t3
 rw[List.flatMap_append]
 rfl
theorem t3_len (r:List Int):(t3 r).length=3 * r.length:=by
 induction r with
 |nil=>rfl
 |cons a r ih=>
  have:t3 (a::r)=eightZ a 3++t3 r:=rfl
  rw[this,List.length_append,eightZ_len,ih,List.length_cons]
  omega
def Sm3 (r:List Int):Prop:=r.length≤1000∧∀n,n∈r→0≤n∧n<256
theorem byte3_inj {a b:Int}(ha:0≤a∧a<256)(hb:0≤b∧b<256)(h:eightZ a 3=eightZ b 3):a=b:=by
 have h0:byteZ a 0=byteZ b 0:=by
  have h1:(eightZ a 3)[0]?=(eightZ b 3)[0]?:=by rw[h]
  simpa [eightZ]using h1
 have h2:=byteZ_wrap a 0
 have h3:=byteZ_wrap b 0
 rw[h0,← h3]at h2
 have h4:∀z:Int,IntKind.u8.wrap z=z % 256:=fun z=>rfl
 rw[h4,h4]at h2
 have h5:∀z:Int,z.fdiv (2 ^ (8 * 0))=z:=fun z=>by simp
 rw[h5,h5]at h2
 omega
theorem t3_inj:∀{a b:List Int},(∀n,n∈a→0≤n∧n<256)→(∀n,n∈b→0≤n∧n<256)→t3 a=t3 b→a=b
 |[],[],_,_,_=>rfl
 |[],b::bs,_,_,h=>by
  have:=congrArg List.length h
  rw[t3_len,t3_len]at this
  simp at this
 |a::ar,[],_,_,h=>by
  have:=congrArg List.length h
  rw[t3_len,t3_len]at this
  simp at this
 |a::ar,b::bs,ha,hb,h=>by
  have h1:eightZ a 3++t3 ar=eightZ b 3++t3 bs:=h
  obtain⟨h2,h3⟩:=List.append_inj h1 (by rw[eightZ_len,eightZ_len])
  rw[byte3_inj (ha a (by simp)) (hb b (by simp)) h2,t3_inj (fun n hn=>ha n (by simp[hn])) (fun n hn=>hb n (by simp[hn])) h3]
def has3 (l:List (List Int)):List (List UInt8×Bool):=l.map fun r=>(t3 r,true)
theorem lkA_has3 {r:List Int}(hr:Sm3 r):∀{l:List (List Int)},(∀x,x∈l→Sm3 x)→lkA (t3 r) (has3 l)=if r∈l then some true else none
 |[],_=>by simp[has3,lkA]
 |a::l,hl=>by
  have ih:=lkA_has3 hr (l:=l) fun x hx=>hl x (by simp[hx])
  simp only[has3,List.map_cons,lkA]at ih ⊢
  by_cases h:r=a
  ·subst h;simp
  ·have h2:¬ t3 r=t3 a:=fun e=>h (t3_inj hr.2 (hl a (by simp)).2 e)
   rw[if_neg h2,ih]
   simp[h]
theorem ptA_has3 {r:List Int}(hr:Sm3 r):∀{l:List (List Int)},(∀x,x∈l→Sm3 x)→r∉l→ptA (t3 r) true (has3 l)=has3 (l++[r])
 |[],_,_=>by simp[has3,ptA]
 |a::l,hl,hn=>by
  have ih:=ptA_has3 hr (l:=l) (fun x hx=>hl x (by simp[hx])) fun h=>hn (by simp[h])
  have h:¬ r=a:=fun e=>hn (by simp[e])
  simp only[has3,List.map_cons,ptA,List.cons_append]at ih ⊢
  have h2:¬ t3 r=t3 a:=fun e=>h (t3_inj hr.2 (hl a (by simp)).2 e)
  rw[if_neg h2,ih]
def rowsF (l:List (List Int))(g:Nat):VV:=match l with|[]=>.raw (.slice none 0 0)|_::_=>.mrw g l.length
def dropG (t:St)(l:List (List Int))(g:Nat):St:=match l with|[]=>t|_::_=>t.set g .free
structure RwAt (t:St) (cs:List VV) (off m g:Nat) (l:List (List Int)):Prop where
 o:cs[off]?=some (rowsF l g)
 p:cs[off+1]?=some (.mp m)
 h:t m=.map (mpV encB (has3 l))
 r:l≠[]→t g=.row 41 1 (l.map rowV)
 s:∀x,x∈l→Sm3 x
 n:l.length≤1000000
theorem splice1 {cs:List VV}{i:Nat}{v:VV}(h:i<cs.length):splice cs i [v]=cs.set i v:=by
 unfold splice
 rw[List.set_eq_take_append_cons_drop,if_pos h]
 simp
theorem spliceU {cs:List VV}{i:Nat}{v:VV}(h:i<cs.length):List.take i cs++[v]++List.drop (i+1) cs=cs.set i v:=splice1 h
theorem own_rk {s:St}{o:Own}{T sz n b:Nat}(h:OwnOk s o n)(hb:s b≠.free):(s.own o T sz n) b=s b:=own_rd (h.not hb)
theorem b3_y (n:Int):∀y,y∈[[VV.int .u8 ((byteZ n 0).toNat:Int)],[VV.int .u8 ((byteZ n 1).toNat:Int)],[VV.int .u8 ((byteZ n 2).toNat:Int)]]→y.length=1:=by simp
theorem b3_w0 (n:Int):IntKind.u8.wrap n=((byteZ n 0).toNat:Int):=by
 have:=byteZ_wrap n 0
 simpa using this
theorem b3_w1 (n:Int):IntKind.u8.wrap (n.fdiv (2 ^ min 8 64))=((byteZ n 1).toNat:Int):=byteZ_wrap n 1
theorem b3_w2 (n:Int):IntKind.u8.wrap (n.fdiv (2 ^ min 16 64))=((byteZ n 2).toNat:Int):=byteZ_wrap n 2
theorem b3_app (l:List UInt8)(n:Int):bytesV (l++eightZ n 3)=bytesV l++[[.int .u8 ((byteZ n 0).toNat:Int)],[.int .u8 ((byteZ n 1).toNat:Int)],[.int .u8 ((byteZ n 2).toNat:Int)]]:=by
 have:eightZ n 3=[byteZ n 0,byteZ n 1,byteZ n 2]:=rfl
 rw[this]
 simp[bytesV]
structure PutP (t u:St) (b off m g g':Nat) (cs:List VV) (l l':List (List Int)):Prop where
 o:u b=.obj 59 (cs.set off (rowsF l' g'))
 r:RwAt u (cs.set off (rowsF l' g')) off m g' l'
 k:∀x,t x≠.free→x≠b→x≠m→(l≠[]→x≠g)→u x=t x
 n:l'≠[]→(l≠[]∧g'=g)∨t g'=.free
theorem rowM_n {t:St}{b m g bM:Nat}{e2:List (VV×VV)}(h1:t b≠.free)(h2:t m≠.free)(n1:¬ b=m)(n2:¬ b=g)(n3:¬ m=g)(hM:(t.set m (.map e2)).set g .free bM=.free):¬ b=bM∧¬ m=bM∧(t.set g .free) bM=.free:=by
 refine⟨?_,?_,?_⟩
 ·rintro rfl
  rw[St.set_other _ _ n2,St.set_other _ _ n1]at hM
  exact h1 hM
 ·rintro rfl
  rw[St.set_other _ _ n3,St.set_same]at hM
  cases hM
 ·by_cases e:bM=g
  ·subst e;exact St.set_same _ _ _
  ·rw[St.set_other _ _ e]at hM ⊢
   by_cases e':bM=m
   ·subst e';rw[St.set_same]at hM;cases hM
   ·rw[St.set_other _ _ e']at hM;exact hM
theorem rowM_n0 {t:St}{b m bM:Nat}{e2:List (VV×VV)}(h1:t b≠.free)(n1:¬ b=m)(hM:(t.set m (.map e2)) bM=.free):¬ b=bM∧¬ m=bM∧t bM=.free:=by
 refine⟨?_,?_,?_⟩
 ·rintro rfl
  rw[St.set_other _ _ n1]at hM
  exact h1 hM
 ·rintro rfl
  rw[St.set_same]at hM
  cases hM
 ·by_cases e':bM=m
  ·subst e';rw[St.set_same]at hM;cases hM
  ·rw[St.set_other _ _ e']at hM;exact hM
theorem rowsF_app {l:List (List Int)}{r:List Int}{g:Nat}:rowsF (l++[r]) g=.mrw g (l.length+1):=by
 cases l<;>simp[rowsF]
theorem put_new {t T:St}{b off m g bM:Nat}{cs:List VV}{l:List (List Int)}{r:List Int}(hT:∀x,t x≠.free→T x=t x)(hb:t b=.obj 59 cs)(hA:RwAt t cs off m g l)(hr:Sm3 r)(hm:r∉l)(hn:l.length<1000000)(hlen:off+2≤cs.length)
  (n1:¬ b=bM) (n2:¬ m=bM) (hM:dropG T l g bM=.free) :
  PutP t (((dropG (T.set m (.map (mpV encB (has3 (l++[r]))))) l g).set bM (.row 41 1 ((l++[r]).map rowV))).set b (.obj 59 (cs.set off (.mrw bM (l.length+1))))) b off m g bM cs l (putK r l):=by
 have hp:putK r l=l++[r]:=by unfold putK;rw[if_neg hm]
 obtain⟨h1,h2,h3,h4,h5,h6⟩:=hA
 have hbm:¬ m=b:=by rintro rfl;rw[hb]at h3;cases h3
 have hmf:t m≠.free:=by rw[h3];simp
 have hmg:l≠[]→¬ m=g:=fun hl=>by rintro rfl;rw[h4 hl]at h3;cases h3
 have hd:∀(S:St) x,(l≠[]→x≠g)→dropG S l g x=S x:=fun S x hx=>by
  cases l with
  |nil=>rfl
  |cons a l=>simp only[dropG];exact St.set_other _ _ (hx (by simp))
 rw[hp]
 refine⟨?_,⟨?_,?_,?_,?_,?_,?_⟩,?_,?_⟩
 ·rw[St.set_same,rowsF_app]
 ·rw[List.getElem?_set_self (by omega)]
 ·rw[List.getElem?_set_ne (by omega)];exact h2
 ·rw[St.set_other _ _ hbm,St.set_other _ _ n2,hd _ _ hmg,St.set_same]
 ·intro _
  rw[St.set_other _ _ (Ne.symm n1),St.set_same]
 ·intro x hx
  rcases List.mem_append.1 hx with hx|hx
  ·exact h5 x hx
  ·rw[List.mem_singleton]at hx;subst hx;exact hr
 ·rw[List.length_append];simp;omega
 ·intro x hx k1 k2 k3
  have hTx:T x≠.free:=by rw[hT x hx];exact hx
  have:x≠bM:=by
   rintro rfl
   rw[hd _ _ k3]at hM
   exact hTx hM
  rw[St.set_other _ _ k1,St.set_other _ _ this,hd _ _ k3,St.set_other _ _ k2,hT x hx]
 ·intro _
  by_cases e:l≠[]∧bM=g
  ·exact .inl e
  ·right
   rw[hd _ _ (fun hl he=>e ⟨hl,he⟩)]at hM
   by_cases hx:t bM=.free
   ·exact hx
   ·rw[hT _ hx]at hM;exact hM
theorem put_old {t:St}{b off m g:Nat}{cs:List VV}{l:List (List Int)}{r:List Int}(hb:t b=.obj 59 cs)(hA:RwAt t cs off m g l)(hm:r∈l)(hlen:off+2≤cs.length):PutP t t b off m g g cs l (putK r l):=by
 have hp:putK r l=l:=by unfold putK;rw[if_pos hm]
 have hs:cs.set off (rowsF l g)=cs:=by
  apply List.ext_getElem?
  intro i
  by_cases e:off=i
  ·subst e;rw[List.getElem?_set_self (by omega),hA.o]
  ·rw[List.getElem?_set_ne e]
 rw[hp]
 refine⟨by rw[hs];exact hb,by rw[hs];exact hA,fun _ _ _ _ _=>rfl,fun hl=>.inl ⟨hl,rfl⟩⟩
set_option maxHeartbeats 4000000 in
theorem Kput_S (t:St)(b off m g:Nat)(cs:List VV)(l:List (List Int))(r:List Int)(o:Own)(hb:t b=.obj 59 cs)(hA:RwAt t cs off m g l)(hr:Sm3 r)(hlen:off+2≤cs.length)(hn:l.length<1000000) :
  SCalls Tryz.prog 34 [.ptr b off,.lst (intsL r) o] t fun w u=>∃q:Nat×St,w=.ret (.tup [])∧u=q.2∧PutP t q.2 b off m g q.1 cs l (putK r l):=by
 have hl1:off+1≤cs.length:=by omega
 have hl2:off+1+1≤cs.length:=by omega
 have hl3:off<cs.length:=by omega
 have hli:(intsL r).length=r.length:=intsL_len
 have hr1:=hr.1
 have HA:=Lib.hid hA
 have HB:=Lib.hid hb
 have HR:=Lib.hid hr
 clear hA hb hr
 refine G_enter Tryz.func34 rfl Tryz.ntmps34 rfl fun Q hQ hQe=>?_
 refine Kp_wkt 1 (y:=.lst (intsL r) .no) (z_sl) (Wk.lst _ _) ?_
 (repeat'(first|refine Ctl ?_|((with_reducible refine Kof.use hK ?_);clear hK hE K E)|((with_reducible refine Eof.use hE ?_);(try clear hK hE K E))|((with_reducible refine Kof.use hKh ?_);clear hKh Kh)|((with_reducible refine Kof.use hKb (P_next ?_));clear hKb Kb)|(with_reducible first|refine G_plan 6 [] [0,1,2,3,4,5,6,7] hQe fun K E hK hE=>?_|refine G_plan 7 [([0,1,2,3,4,5],6,[[]])] [] hQe fun K E hK hE=>?_)|((with_reducible refine W_cond (fun h=>?_) (fun h=>?_))<;>(try(exfalso;first|assumption|omega)))|((first|(with_reducible first|refine G_region fun K E hK hE=>?_|refine W_if ?_|refine W_ifS ?_|refine P_heads fun Kh hKh=>?_|refine P_fin fun Kh hKh=>?_|refine P_each fun Kb hKb=>?_|refine W_and ?_)|((with_reducible refine W_app (fun o2 ho=>?_));(try simp(disch:=assumption) only[disown_set,disown_own,ownok_o,ownok_m,List.length_map,List.length_cons,List.length_nil,Nat.zero_add,hli]at ho);(repeat(obtain⟨_,ho⟩:=ho)))|((with_reducible refine W_appM (fun bM hM=>?_)))|((with_reducible refine W_app0 (fun bM hM=>?_))))<;>(try simp(disch:=first|assumption|omega) only[go_sem,seval,hli, *]))))
 refine G_loop (fun m' env s'=>∃(i:Nat) (o2:Own),i≤r.length∧m'+i=r.length∧OwnOk t o2 (3 * i)∧s'=t.own o2 5 1 (3 * i)∧env 0=.ptr b off∧env 1=.lst (intsL r) .no∧env 4=.lst (bytesV (t3 (r.take i))) o2∧env 7=.lst (intsL r) .no∧env 8=.int .i64 r.length∧env 9=.int .i64 i) r.length ?_ ?_
 ·exact⟨_,Fg.refl _,0,.full,by omega,by omega,(show OwnOk t .full 0 from rfl),rfl,z_sl,z_sl,z_sl,z_sl,z_sl,z_sl⟩
 rintro m' env s' ⟨i,o2,hi,hm,hO,rfl,e0,e1,e4,e7,e8,e9⟩
 by_cases hlt:i<r.length
 ·obtain⟨n,hnn⟩:∃n,r[i]?=some n:=⟨_,List.getElem?_eq_getElem hlt⟩
  have hsn:=intsL_at hnn
  have HT:=Lib.hid (congrArg bytesV (t3_take hnn))
  have hTl:(t3 (r.take i)).length=3 * i:=by rw[t3_len,List.length_take];omega
  clear hnn
  generalize t3 (r.take i)=L' at *
  have hw0:=b3_w0 n
  have hw1:=b3_w1 n
  have hw2:=b3_w2 n
  have hy3:=b3_y n
  have HA2:=Lib.hid (b3_app L' n)
  have hml:(bytesV L').length=3 * i:=by simp[bytesV,hTl]
  have h1y:∀y,y∈bytesV L'→y.length=1:=fun y hy=>by
   obtain⟨c,_,rfl⟩:=List.mem_map.1 hy
   rfl
  clear hTl
  generalize bytesV L'=M at *
  (repeat'(first|refine Ctl ?_|((with_reducible refine Kof.use hK ?_);clear hK hE K E)|((with_reducible refine Eof.use hE ?_);(try clear hK hE K E))|((with_reducible refine Kof.use hKh ?_);clear hKh Kh)|((with_reducible refine Kof.use hKb (P_next ?_));clear hKb Kb)|(with_reducible first|refine G_plan 6 [] [0,1,2,3,4,5,6,7] hQe fun K E hK hE=>?_|refine G_plan 7 [([0,1,2,3,4,5],6,[[]])] [] hQe fun K E hK hE=>?_)|((with_reducible refine W_cond (fun h=>?_) (fun h=>?_))<;>(try(exfalso;first|assumption|omega)))|((first|(with_reducible first|refine G_region fun K E hK hE=>?_|refine W_if ?_|refine W_ifS ?_|refine P_heads fun Kh hKh=>?_|refine P_fin fun Kh hKh=>?_|refine P_each fun Kb hKb=>?_|refine W_and ?_)|((with_reducible refine W_app (fun o2 ho=>?_));(try simp(disch:=assumption) only[disown_set,disown_own,ownok_o,ownok_m,List.length_map,List.length_cons,List.length_nil,Nat.zero_add,hli,hsn,hw0,hw1,hw2,hml]at ho);(repeat(obtain⟨_,ho⟩:=ho)))|((with_reducible refine W_appM (fun bM hM=>?_)))|((with_reducible refine W_app0 (fun bM hM=>?_))))<;>(try simp(disch:=first|assumption|omega) only[go_sem,seval,hli,hsn,hw0,hw1,hw2,hml, *]))))
  exact⟨_,Fg.refl _,m' - 1,by omega,i+1,o2,by omega,by omega,ho,rfl,z_sl,z_sl,by rw[HT.out,HA2.out];((try simp(disch:=first|assumption|omega) only[go_sem,seval, *])<;>first|rfl|omega),z_sl,z_sl,z_sl⟩
 ·obtain rfl:i=r.length:=by omega
  rw[List.take_length]at e4
  have hFg:Fg (t.own o2 5 1 (3 * r.length)) t:=Fg.own hO
  have hTT:∀x,t x≠.free→(t.own o2 5 1 (3 * r.length)) x=t x:=fun x hx=>own_rk hO hx
  generalize t.own o2 5 1 (3 * r.length)=T at *
  have HF:=Lib.hid hFg
  have HTT:=Lib.hid hTT
  have HH:=Lib.hid (lkA_has3 HR.out HA.out.s)
  have h1:=HA.out.o
  have h2:=HA.out.p
  have h3:T m=.map (mpV encB (has3 l)):=by rw[hTT _ (by rw[HA.out.h];simp)];exact HA.out.h
  have hb:T b=.obj 59 cs:=by rw[hTT _ (by rw[HB.out];simp)];exact HB.out
  have h4:l≠[]→T g=.row 41 1 (l.map rowV):=fun hl=>by rw[hTT _ (by rw[HA.out.r hl];simp)];exact HA.out.r hl
  clear hFg hO hTT
  have hbf:T b≠.free:=by rw[hb];simp
  have hmf:T m≠.free:=by rw[h3];simp
  have nbm:¬ b=m:=by rintro rfl;rw[hb]at h3;cases h3
  have nmb:¬ m=b:=fun e=>nbm e.symm
  by_cases hm:r∈l
  ·have hk:=HH.out
   rw[if_pos hm]at hk
   have HM:=Lib.hid hm
   clear hm h4
   generalize has3 l=L at *
   generalize t3 r=R at *
   generalize rowsF l g=F at *
   (repeat'(first|refine Ctl ?_|((with_reducible refine Kof.use hK ?_);clear hK hE K E)|((with_reducible refine Eof.use hE ?_);(try clear hK hE K E))|((with_reducible refine Kof.use hKh ?_);clear hKh Kh)|((with_reducible refine Kof.use hKb (P_next ?_));clear hKb Kb)|(with_reducible first|refine G_plan 6 [] [0,1,2,3,4,5,6,7] hQe fun K E hK hE=>?_|refine G_plan 7 [([0,1,2,3,4,5],6,[[]])] [] hQe fun K E hK hE=>?_)|((with_reducible refine W_cond (fun h=>?_) (fun h=>?_))<;>(try(exfalso;first|assumption|omega)))|((first|(with_reducible first|refine G_region fun K E hK hE=>?_|refine W_if ?_|refine W_ifS ?_|refine P_heads fun Kh hKh=>?_|refine P_fin fun Kh hKh=>?_|refine P_each fun Kb hKb=>?_|refine W_and ?_)|((with_reducible refine W_app (fun o2 ho=>?_));(try simp(disch:=assumption) only[disown_set,disown_own,ownok_o,ownok_m,List.length_map,List.length_cons,List.length_nil,Nat.zero_add,hk,Option.getD_some]at ho);(repeat(obtain⟨_,ho⟩:=ho)))|((with_reducible refine W_appM (fun bM hM=>?_)))|((with_reducible refine W_app0 (fun bM hM=>?_))))<;>(try simp(disch:=first|assumption|omega) only[go_sem,seval,hk,Option.getD_some, *]))))
   all_goals(first|refine W_ret res34 hQ ?_|refine W_norm res34 hQ ?_|refine G_pan hQ ?_)
   all_goals exact⟨_,t,Wk.refl _,HF.out,(g,t),rfl,rfl,put_old HB.out HA.out HM.out hlen⟩
  ·have hk:=HH.out
   rw[if_neg hm]at hk
   have hp:=ptA_has3 HR.out HA.out.s hm
   have HP:=Lib.hid fun(bM:Nat) n1 n2 hM=>put_new (bM:=bM) HTT.out HB.out HA.out HR.out hm hn hlen n1 n2 hM
   clear hm HH
   cases l with
   |nil=>
    simp only[rowsF]at h1
    have hap:([]++[r]).map rowV=[rowV r]:=rfl
    clear h4
    simp only[hap,dropG,List.length_nil]at HP
    have HP2:=HP
    clear HP hap
    generalize has3 ([]++[r])=L2 at *
    generalize has3 []=L at *
    generalize t3 r=R at *
    have hv1:(rowV r).cells=[rowV r]:=rfl
    have hv2:[rowV r].all VV.one=true:=rfl
    have hrv:VV.lst (intsL r) .no=rowV r:=rfl
    rw[hrv]at e1
    generalize rowV r=V at *
    (repeat'(first|refine Ctl ?_|((with_reducible refine Kof.use hK ?_);clear hK hE K E)|((with_reducible refine Eof.use hE ?_);(try clear hK hE K E))|((with_reducible refine Kof.use hKh ?_);clear hKh Kh)|((with_reducible refine Kof.use hKb (P_next ?_));clear hKb Kb)|(with_reducible first|refine G_plan 6 [] [0,1,2,3,4,5,6,7] hQe fun K E hK hE=>?_|refine G_plan 7 [([0,1,2,3,4,5],6,[[]])] [] hQe fun K E hK hE=>?_)|((with_reducible refine W_cond (fun h=>?_) (fun h=>?_))<;>(try(exfalso;first|assumption|omega)))|((first|(with_reducible first|refine G_region fun K E hK hE=>?_|refine W_if ?_|refine W_ifS ?_|refine P_heads fun Kh hKh=>?_|refine P_fin fun Kh hKh=>?_|refine P_each fun Kb hKb=>?_|refine W_and ?_)|((with_reducible refine W_app (fun o2 ho=>?_));(try simp(disch:=assumption) only[disown_set,disown_own,ownok_o,ownok_m,List.length_map,List.length_cons,List.length_nil,Nat.zero_add,hk,hp,hv1,hv2,Option.getD_none]at ho);(repeat(obtain⟨_,ho⟩:=ho));(try(obtain⟨m1,m2,m3⟩:=rowM_n0 hbf nbm hM)))|((with_reducible refine W_appM (fun bM hM=>?_));(try(obtain⟨m1,m2,m3⟩:=rowM_n0 hbf nbm hM)))|((with_reducible refine W_app0 (fun bM hM=>?_));(try(obtain⟨m1,m2,m3⟩:=rowM_n0 hbf nbm hM))))<;>(try simp(disch:=first|assumption|omega) only[go_sem,seval,hk,hp,hv1,hv2,Option.getD_none, *]))))
    all_goals(first|refine W_ret res34 hQ ?_|refine W_norm res34 hQ ?_|refine G_pan hQ ?_)
    all_goals exact⟨_,((T.set m (.map (mpV encB L2))).set bM (.row 41 1 [V])).set b (.obj 59 (cs.set off (.mrw bM (0+1)))),Wk.refl _,(by rw[spliceU hl3];exact Fg.refl _),(bM,_),rfl,rfl,HP2.out bM m1 m2 m3⟩
   |cons a l=>
    have h5:=h4 (by simp)
    simp only[rowsF]at h1
    have hap:((a::l)++[r]).map rowV=(a::l).map rowV++[rowV r]:=by simp
    simp only[hap,dropG]at HP
    clear h4
    have HP2:=HP
    clear HP hap
    generalize has3 (a::l++[r])=L2 at *
    have hlm:((a::l).map rowV).length=(a::l).length:=by simp
    generalize (a::l).map rowV=M at *
    generalize (a::l).length=n at *
    generalize has3 (a::l)=L at *
    generalize t3 r=R at *
    have hv1:(rowV r).cells=[rowV r]:=rfl
    have hv2:[rowV r].all VV.one=true:=rfl
    have hrv:VV.lst (intsL r) .no=rowV r:=rfl
    rw[hrv]at e1
    generalize rowV r=V at *
    have n2:¬ b=g:=by rintro rfl;rw[hb]at h5;cases h5
    have n3:¬ m=g:=by rintro rfl;rw[h3]at h5;cases h5
    have n5:¬ g=b:=fun e=>n2 e.symm
    have n6:¬ g=m:=fun e=>n3 e.symm
    (repeat'(first|refine Ctl ?_|((with_reducible refine Kof.use hK ?_);clear hK hE K E)|((with_reducible refine Eof.use hE ?_);(try clear hK hE K E))|((with_reducible refine Kof.use hKh ?_);clear hKh Kh)|((with_reducible refine Kof.use hKb (P_next ?_));clear hKb Kb)|(with_reducible first|refine G_plan 6 [] [0,1,2,3,4,5,6,7] hQe fun K E hK hE=>?_|refine G_plan 7 [([0,1,2,3,4,5],6,[[]])] [] hQe fun K E hK hE=>?_)|((with_reducible refine W_cond (fun h=>?_) (fun h=>?_))<;>(try(exfalso;first|assumption|omega)))|((first|(with_reducible first|refine G_region fun K E hK hE=>?_|refine W_if ?_|refine W_ifS ?_|refine P_heads fun Kh hKh=>?_|refine P_fin fun Kh hKh=>?_|refine P_each fun Kb hKb=>?_|refine W_and ?_)|((with_reducible refine W_app (fun o2 ho=>?_));(try simp(disch:=assumption) only[disown_set,disown_own,ownok_o,ownok_m,List.length_map,List.length_cons,List.length_nil,Nat.zero_add,hk,hp,hv1,hv2,Option.getD_none]at ho);(repeat(obtain⟨_,ho⟩:=ho));(try(obtain⟨m1,m2,m3⟩:=rowM_n hbf hmf nbm n2 n3 hM)))|((with_reducible refine W_appM (fun bM hM=>?_));(try(obtain⟨m1,m2,m3⟩:=rowM_n hbf hmf nbm n2 n3 hM)))|((with_reducible refine W_app0 (fun bM hM=>?_));(try(obtain⟨m1,m2,m3⟩:=rowM_n hbf hmf nbm n2 n3 hM))))<;>(try simp(disch:=first|assumption|omega) only[go_sem,seval,hk,hp,hv1,hv2,Option.getD_none, *]))))
    all_goals(first|refine W_ret res34 hQ ?_|refine W_norm res34 hQ ?_|refine G_pan hQ ?_)
    all_goals exact⟨_,(((T.set m (.map (mpV encB L2))).set g .free).set bM (.row 41 1 (M++[V]))).set b (.obj 59 (cs.set off (.mrw bM (n+1)))),Wk.refl _,(by rw[spliceU hl3];exact Fg.refl _),(bM,_),rfl,rfl,HP2.out bM m1 m2 m3⟩
theorem fgK {t u:St}(h:∀z,t z≠.free→u z=t z):Fg u t:=fun z=>by
 by_cases hz:t z=.free
 ·exact .inl hz
 ·exact .inr (h z hz).symm
theorem liveK {t:St}{z b:Nat}(hz:t z≠.free)(hb:t b=.free):¬ z=b:=fun e=>hz (e ▸ hb)
theorem rowneK {u:St}{g z:Nat}{T sz:Nat}{xs:List VV}(hg:u g=.row T sz xs){c:Cell}(hz:u z=c)(hc:∀T sz xs,c≠.row T sz xs):¬ z=g:=by
 rintro rfl
 exact hc _ _ _ (hz.symm.trans hg)
theorem sortlenK {l:List (List Int)}(h:l.Nodup):(sortR l).length=l.length:=
 (List.perm_ext_iff_of_nodup (sortR_rising l).nodup h).2 (fun r=>sortR_mem)|>.length_eq
theorem wkrawK:Wk (.raw (.slice none 0 0)) (.lst [] .no):=fun G v h=>by
 cases h with
 |raw=>exact .emp none 0 .no (.inl rfl)
def StopK (p:Prop):Prop:=p
theorem Kp_atK {P:Program}{N:Nat}{D:List Deferred}{k:List Itm}{Q:Pst}{env:Env}{s:St}(r:Nat){os:Array Oper}{fl:Bool}(h:StopK (Kp P N D (.code (.region r os fl)::k) Q .norm env s)):Kp P N D (.code (.region r os fl)::k) Q .norm env s:=h
theorem Kp_nameK {P:Program}{N:Nat}{D:List Deferred}{k:List Itm}{Q:Pst}{env:Env}{s:St}(h:∀s',s'=s→Kp P N D k Q .norm env s'):Kp P N D k Q .norm env s:=h s rfl
theorem cvpK:cv (.pointer none)=.raw (.pointer none):=rfl
theorem nilpK:nilB .ptr (.raw (.pointer none)) (.raw (.pointer none))=some true:=rfl
theorem onenK:VV.one (.raw (.pointer none))=true:=by first|rfl|decide
theorem putK_nodup {r:List Int}{l:List (List Int)}(h:l.Nodup):(putK r l).Nodup:=by
 unfold putK
 split
 ·exact h
 ·rename_i hn
  rw[List.nodup_append]
  exact⟨h,by simp,fun a ha b hb=>by rw[List.mem_singleton]at hb;subst hb;rintro rfl;exact hn ha⟩
theorem putK_len {r:List Int}{l:List (List Int)}:(putK r l).length≤l.length+1:=by
 unfold putK
 split<;>simp
def plcA (l:List (List UInt8)):List (List UInt8×Int):=pairsA (fun v:List UInt8=>v) (fun(i:Nat) (_:List UInt8)=>(i:Int)) 0 l
def plcP (l:List (List UInt8)):List (List UInt8×Int):=putsA (fun v:List UInt8=>v) (fun(i:Nat) (_:List UInt8)=>(i:Int)) 0 l []
theorem plcP_eq {l:List (List UInt8)}(h:l.Nodup):plcP l=plcA l:=by unfold plcP plcA;rw[putsA_nodup 0 l [] (by simpa using h),List.nil_append]
theorem plcA_lk {l:List (List UInt8)}(n:List UInt8):(lkA n (plcA l)).getD 0=(((ixT n l).getD 0:Nat):Int):=by
 unfold plcA
 rw[lkA_pairs,List.map_id']
 cases h:ixT n l with
 |none=>rfl
 |some j=>
  have:=ixT_lt h
  simp[this]
theorem plcP_at {l:List (List UInt8)}{i:Nat}{c:List UInt8}(h:l[i]?=some c):plcP (l.take (i+1))=ptA c (i:Int) (plcP (l.take i)):=by
 unfold plcP;rw[utake h,putsA_app,List.length_take,Nat.min_eq_left (Nat.le_of_lt (List.getElem?_eq_some_iff.1 h).1),Nat.zero_add]
theorem strsP_len {l:List (List UInt8)}:(strs l).length=l.length:=by simp[strs]
theorem strsP_at {l:List (List UInt8)}{i:Nat}{x:List UInt8}(h:l[i]?=some x):(strs l)[i]?=some [.str x]:=by simp[strs,h]
theorem neC {t:St}{x y:Nat}{c d:Cell}(hx:t x=c)(hy:t y=d)(h:c≠d):x≠y:=by rintro rfl;exact h (hx.symm.trans hy)
def setN {α:Type}(f:Nat→α)(i:Nat)(v:α):Nat→α:=fun j=>if j=i then v else f j
theorem setN_same {α:Type}{f:Nat→α}{i:Nat}{v:α}:setN f i v i=v:=if_pos rfl
theorem setN_ne {α:Type}{f:Nat→α}{i j:Nat}{v:α}(h:j≠i):setN f i v j=f j:=if_neg h
structure Kc where
 p:Nat
 a:Nat
 av:Nat
 vm:Nat
 fm:Nat
 ms:Nat→Nat
 V:List (List UInt8)
 F:List (List UInt8)
def offK (i:Nat):Nat:=if i=2 then 36 else if i=3 then 34 else 30+2 * i
def Kc.maps (K:Kc):List Nat:=[K.av,K.vm,K.fm,K.ms 0,K.ms 1,K.ms 2,K.ms 3]
theorem offK_lt {i:Nat}(h:i<4):offK i+2≤38∧30≤offK i:=by
 unfold offK
 split
 ·omega
 ·split<;>omega
theorem offK_ne {i j:Nat}(hi:i<4)(hj:j<4)(h:i≠j):offK i≠offK j∧offK i≠offK j+1:=by
 have:∀i,i<4→∀j,j<4→i≠j→offK i≠offK j∧offK i≠offK j+1:=by decide
 exact this i hi j hj h
theorem maps_at {K:Kc}{i:Nat}(hi:i<4):K.maps[3+i]?=some (K.ms i):=by
 match i,hi with
 |0,_=>rfl
 |1,_=>rfl
 |2,_=>rfl
 |3,_=>rfl
structure KAt (t:St) (K:Kc) (ml:VV) (cs:List VV) (env:List (List UInt8×Nat)) (k:Nat) (ls:Nat→List (List Int)) (gs ob fo:Nat→Nat):Prop where
 m:t K.p=.obj 59 cs
 len:cs.length=38
 c22:cs[22]?=some ml
 c23:cs[23]?=some (.mp K.vm)
 c24:cs[24]?=some (.mp K.fm)
 fr:t K.a=.obj 71 [.int .i64 0,.mp K.av,.lst [] .full,.bool false]
 ev:t K.av=.map (mpV encQ (env.map fun x=>(x.1,ob x.2)))
 vs:t K.vm=.map (mpV encI (plcP K.V))
 fs:t K.fm=.map (mpV encI (plcP K.F))
 r:∀i,i<4→RwAt t cs (offK i) (K.ms i) (gs i) (ls i)
 o:∀j,j<k→t (ob j)=.obj 111 [.int .i64 (j:Int),.mp (fo j)]∧∃L,t (fo j)=.map (mpV encQ L)
 nd:K.maps.Nodup
 nf:∀j,j<k→fo j∉K.maps
 fj:∀i j,i<k→j<k→i≠j→fo i≠fo j
 ng:∀i j,i<4→j<4→i≠j→ls i≠[]→ls j≠[]→gs i≠gs j
 ek:∀x,x∈env→x.2<k
def KF (K:Kc)(k:Nat)(ls:Nat→List (List Int))(gs fo:Nat→Nat)(x:Nat):Prop:=
 x=K.p∨x=K.av∨(∃i,i<4∧x=K.ms i)∨(∃i,i<4∧ls i≠[]∧x=gs i)∨∃j,j<k∧x=fo j
structure KOut (t u:St) (F F':Nat→Prop):Prop where
 k:∀x,t x≠.free→¬ F x→u x=t x
 n:∀x,F' x→F x∨t x=.free
theorem KOut.refl (t:St)(F:Nat→Prop):KOut t t F F:=⟨fun _ _ _=>rfl,fun _ h=>.inl h⟩
theorem KOut.trans {t u v:St}{F F' F'':Nat→Prop}(h:KOut t u F F')(h':KOut u v F' F''):KOut t v F F'':=by
 refine⟨fun x hx hF=>?_,fun x hx=>?_⟩
 ·have h1:=h.k x hx hF
  by_cases hF':F' x
  ·rcases h.n x hF' with e|e
   ·exact absurd e hF
   ·exact absurd e hx
  ·rw[h'.k x (by rw[h1];exact hx) hF',h1]
 ·rcases h'.n x hx with e|e
  ·exact h.n x e
  ·by_cases hF:F x
   ·exact .inl hF
   ·by_cases ht:t x=.free
    ·exact .inr ht
    ·rw[h.k x ht hF]at e;exact absurd e ht
section
variable {t u : St} {K : Kc} {ml : VV} {cs : List VV} {env : List (List UInt8 × Nat)} {k : Nat} {ls : Nat → List (List Int)} {gs ob fo : Nat → Nat}
theorem KAt.mm (h:KAt t K ml cs env k ls gs ob fo){i:Nat}(hi:i<4):K.ms i∈K.maps:=List.mem_of_getElem? (maps_at hi)
theorem KAt.mne (h:KAt t K ml cs env k ls gs ob fo){i:Nat}(hi:i<4):K.ms i≠K.av∧K.ms i≠K.vm∧K.ms i≠K.fm∧∀j,j<4→j≠i→K.ms i≠K.ms j:=by
 have inj:∀a b,a<7→K.maps[a]?=K.maps[b]?→a=b:=fun a b ha he=>(List.getElem?_inj (by simpa [Kc.maps]using ha) h.nd).1 he
 refine⟨fun e=>?_,fun e=>?_,fun e=>?_,fun j hj hne e=>?_⟩
 ·have:=inj (3+i) 0 (by omega) (by rw[maps_at hi,e];rfl);omega
 ·have:=inj (3+i) 1 (by omega) (by rw[maps_at hi,e];rfl);omega
 ·have:=inj (3+i) 2 (by omega) (by rw[maps_at hi,e];rfl);omega
 ·have:=inj (3+i) (3+j) (by omega) (by rw[maps_at hi,maps_at hj,e]);omega
theorem KAt.put (h:KAt t K ml cs env k ls gs ob fo){i g':Nat}{l':List (List Int)}(hi:i<4)(P:PutP t u K.p (offK i) (K.ms i) (gs i) g' cs (ls i) l') :
  KAt u K ml (cs.set (offK i) (rowsF l' g')) env k (setN ls i l') (setN gs i g') ob fo:=by
 have hb:=offK_lt hi
 obtain⟨n1,n2,n3,n4⟩:=h.mne hi
 have hr:=h.r i hi
 have key:∀(x:Nat) (c:Cell),t x=c→c≠.free→x≠K.p→x≠K.ms i→(ls i≠[]→x≠gs i)→u x=c:=fun x c hx hc h1 h2 h3=>by
  rw[P.k x (by rw[hx];exact hc) h1 h2 h3,hx]
 have hg:∀{x:Nat} {c:Cell},t x=c→(∀T sz xs,c≠.row T sz xs)→(ls i≠[]→x≠gs i):=fun {x c} hx hc hl e=>by
  subst e
  exact hc _ _ _ (hx.symm.trans (hr.r hl))
 refine⟨P.o,by rw[List.length_set];exact h.len,?_,?_,?_,?_,?_,?_,?_,?_,?_,h.nd,h.nf,h.fj,?_,h.ek⟩
 ·rw[List.getElem?_set_ne (by omega)];exact h.c22
 ·rw[List.getElem?_set_ne (by omega)];exact h.c23
 ·rw[List.getElem?_set_ne (by omega)];exact h.c24
 ·exact key _ _ h.fr (by simp) (neC h.fr h.m (by simp)) (neC h.fr hr.h (by simp)) (hg h.fr (by simp))
 ·exact key _ _ h.ev (by simp) (neC h.ev h.m (by simp)) (Ne.symm n1) (hg h.ev (by simp))
 ·exact key _ _ h.vs (by simp) (neC h.vs h.m (by simp)) (Ne.symm n2) (hg h.vs (by simp))
 ·exact key _ _ h.fs (by simp) (neC h.fs h.m (by simp)) (Ne.symm n3) (hg h.fs (by simp))
 ·intro j hj
  by_cases e:j=i
  ·subst e
   rw[setN_same,setN_same];exact P.r
  ·rw[setN_ne e,setN_ne e]
   have hrj:=h.r j hj
   obtain⟨o1,o2⟩:=offK_ne hi hj (Ne.symm e)
   refine⟨?_,?_,?_,?_,hrj.s,hrj.n⟩
   ·rw[List.getElem?_set_ne o1];exact hrj.o
   ·rw[List.getElem?_set_ne o2];exact hrj.p
   ·exact key _ _ hrj.h (by simp) (neC hrj.h h.m (by simp)) (Ne.symm (n4 j hj e)) (hg hrj.h (by simp))
   ·intro hl
    exact key _ _ (hrj.r hl) (by simp) (neC (hrj.r hl) h.m (by simp)) (neC (hrj.r hl) hr.h (by simp)) (fun hli=>h.ng j i hj hi e hl hli)
 ·intro j hj
  obtain⟨h1,L,h2⟩:=h.o j hj
  refine⟨key _ _ h1 (by simp) (neC h1 h.m (by simp)) (neC h1 hr.h (by simp)) (hg h1 (by simp)),L,key _ _ h2 (by simp) (neC h2 h.m (by simp)) (fun e=>h.nf j hj (e ▸ h.mm hi)) (hg h2 (by simp))⟩
 ·intro a b ha hb' hab hla hlb
  by_cases e1:a=i
  ·subst e1
   rw[setN_same]at hla ⊢
   rw[setN_ne (Ne.symm hab)]at hlb ⊢
   rcases P.n hla with ⟨hl,rfl⟩|hf
   ·exact h.ng _ _ hi hb' hab hl hlb
   ·intro e
    rw[e,(h.r b hb').r hlb]at hf
    cases hf
  ·rw[setN_ne e1]at hla ⊢
   by_cases e2:b=i
   ·subst e2
    rw[setN_same]at hlb ⊢
    rcases P.n hlb with ⟨hl,rfl⟩|hf
    ·exact h.ng _ _ ha hi hab hla hl
    ·intro e
     rw[← e,(h.r a ha).r hla]at hf
     cases hf
   ·rw[setN_ne e2]at hlb ⊢
    exact h.ng _ _ ha hb' hab hla hlb
theorem KAt.put_out (h:KAt t K ml cs env k ls gs ob fo){i g':Nat}{l':List (List Int)}(hi:i<4)(P:PutP t u K.p (offK i) (K.ms i) (gs i) g' cs (ls i) l') :
  KOut t u (KF K k ls gs fo) (KF K k (setN ls i l') (setN gs i g') fo):=by
 refine⟨fun x hx hF=>P.k x hx (fun e=>hF (.inl e)) (fun e=>hF (.inr (.inr (.inl ⟨i,hi,e⟩)))) (fun hl e=>hF (.inr (.inr (.inr (.inl ⟨i,hi,hl,e⟩))))),fun x hx=>?_⟩
 rcases hx with rfl|rfl|⟨j,hj,rfl⟩|⟨j,hj,hl,rfl⟩|⟨j,hj,rfl⟩
 ·exact .inl (.inl rfl)
 ·exact .inl (.inr (.inl rfl))
 ·exact .inl (.inr (.inr (.inl ⟨j,hj,rfl⟩)))
 ·by_cases e:j=i
  ·subst e
   rw[setN_same]at hl ⊢
   rcases P.n hl with ⟨hl,rfl⟩|hf
   ·exact .inl (.inr (.inr (.inr (.inl ⟨j,hi,hl,rfl⟩))))
   ·exact .inr hf
  ·rw[setN_ne e]at hl ⊢
   exact .inl (.inr (.inr (.inr (.inl ⟨j,hj,hl,rfl⟩))))
 ·exact .inl (.inr (.inr (.inr (.inr ⟨j,hj,rfl⟩))))
theorem KAt.map (h:KAt t K ml cs env k ls gs ob fo){x:Nat}{es:List (VV×VV)}{env':List (List UInt8×Nat)}
  (hx:(x=K.av∧es=mpV encQ (env'.map fun x=>(x.1,ob x.2)))∨(env'=env∧∃j L,j<k∧x=fo j∧es=mpV encQ L)) (hk:∀x,x∈env'→x.2<k) :
  KAt (t.set x (.map es)) K ml cs env' k ls gs ob fo:=by
 have hxm:∃e,t x=.map e:=by
  rcases hx with ⟨rfl,_⟩|⟨_,j,L,hj,rfl,_⟩
  ·exact⟨_,h.ev⟩
  ·obtain⟨_,L',h'⟩:=h.o j hj
   exact⟨_,h'⟩
 obtain⟨e0,hxm⟩:=hxm
 have key:∀{y:Nat} {c:Cell},t y=c→y≠x→(t.set x (.map es)) y=c:=fun hy hne=>by rw[St.set_other _ _ hne];exact hy
 have hmap:∀y,y∈K.maps→(x=K.av∧y≠K.av)∨(x≠K.av∧True)→y≠x:=fun y hy h2=>by
  rcases hx with ⟨rfl,_⟩|⟨_,j,L,hj,rfl,_⟩
  ·rcases h2 with ⟨_,h2⟩|⟨h2,_⟩
   ·exact h2
   ·exact absurd rfl h2
  ·intro e;subst e;exact h.nf j hj hy
 have hav:∀y,y∈K.maps→y≠K.av→y≠x:=fun y hy hne=>by
  by_cases e:x=K.av
  ·exact hmap y hy (.inl ⟨e,hne⟩)
  ·exact hmap y hy (.inr ⟨e,trivial⟩)
 have hvm:K.vm∈K.maps∧K.fm∈K.maps∧K.vm≠K.av∧K.fm≠K.av:=by
  have hn:=h.nd
  unfold Kc.maps at hn
  simp only[List.nodup_cons,List.mem_cons,List.not_mem_nil,not_or,or_false,not_false_eq_true,true_and,List.nodup_nil,and_true]at hn
  refine⟨by simp[Kc.maps],by simp[Kc.maps],fun e=>hn.1.1 e.symm,fun e=>hn.1.2.1 e.symm⟩
 refine⟨key h.m (neC h.m hxm (by simp)),h.len,h.c22,h.c23,h.c24,key h.fr (neC h.fr hxm (by simp)),?_,key h.vs (hav _ hvm.1 hvm.2.2.1),key h.fs (hav _ hvm.2.1 hvm.2.2.2),fun i hi=>?_,fun j hj=>?_,h.nd,h.nf,h.fj,h.ng,hk⟩
 ·rcases hx with ⟨rfl,rfl⟩|⟨rfl,j,L,hj,rfl,_⟩
  ·exact St.set_same _ _ _
  ·exact key h.ev (fun e=>h.nf j hj (by rw[← e];simp[Kc.maps]))
 ·obtain⟨h1,h2,h3,h4,h5,h6⟩:=h.r i hi
  exact⟨h1,h2,key h3 (hav _ (h.mm hi) (h.mne hi).1),fun hl=>key (h4 hl) (neC (h4 hl) hxm (by simp)),h5,h6⟩
 ·obtain⟨h1,L,h2⟩:=h.o j hj
  refine⟨key h1 (neC h1 hxm (by simp)),?_⟩
  by_cases e:fo j=x
  ·rcases hx with ⟨rfl,rfl⟩|⟨_,j',L',hj',rfl,rfl⟩
   ·exact⟨_,by rw[e];exact St.set_same _ _ _⟩
   ·exact⟨L',by rw[e];exact St.set_same _ _ _⟩
  ·exact⟨L,key h2 e⟩
theorem KAt.map_out (h:KAt t K ml cs env k ls gs ob fo){x:Nat}{c:Cell}(hx:x=K.av∨∃j,j<k∧x=fo j):KOut t (t.set x c) (KF K k ls gs fo) (KF K k ls gs fo):=by
 refine⟨fun y hy hF=>St.set_other _ _ ?_,fun y hy=>.inl hy⟩
 rintro rfl
 rcases hx with rfl|⟨j,hj,rfl⟩
 ·exact hF (.inr (.inl rfl))
 ·exact hF (.inr (.inr (.inr (.inr ⟨j,hj,rfl⟩))))
theorem KAt.new (h:KAt t K ml cs env k ls gs ob fo){f o:Nat}(hu:∀x,t x≠.free→u x=t x)(hf:t f=.free)(ho:t o=.free)(h1:u f=.map (mpV encQ []))(h2:u o=.obj 111 [.int .i64 (k:Int),.mp f]) :
  KAt u K ml cs env (k+1) ls gs (setN ob k o) (setN fo k f):=by
 have key:∀{y:Nat} {c:Cell},t y=c→c≠.free→u y=c:=fun hy hne=>by rw[hu _ (by rw[hy];exact hne)];exact hy
 refine⟨key h.m (by simp),h.len,h.c22,h.c23,h.c24,key h.fr (by simp),?_,key h.vs (by simp),key h.fs (by simp),fun i hi=>?_,fun j hj=>?_,h.nd,fun j hj=>?_,fun i j hi hj hne=>?_,h.ng,fun x hx=>Nat.lt_succ_of_lt (h.ek x hx)⟩
 ·have:(env.map fun x=>(x.1,setN ob k o x.2))=env.map fun x=>(x.1,ob x.2):=List.map_congr_left fun x hx=>by rw[setN_ne (Nat.ne_of_lt (h.ek x hx))]
  rw[this]
  exact key h.ev (by simp)
 ·obtain⟨a1,a2,a3,a4,a5,a6⟩:=h.r i hi
  exact⟨a1,a2,key a3 (by simp),fun hl=>key (a4 hl) (by simp),a5,a6⟩
 ·by_cases e:j=k
  ·subst e
   rw[setN_same,setN_same]
   exact⟨h2,[],h1⟩
  ·rw[setN_ne e,setN_ne e]
   obtain⟨b1,L,b2⟩:=h.o j (by omega)
   exact⟨key b1 (by simp),L,key b2 (by simp)⟩
 ·by_cases e:j=k
  ·subst e
   rw[setN_same]
   intro hm
   unfold Kc.maps at hm
   simp only[List.mem_cons,List.not_mem_nil,or_false]at hm
   rcases hm with e|e|e|e|e|e|e
   ·rw[e,h.ev]at hf;cases hf
   ·rw[e,h.vs]at hf;cases hf
   ·rw[e,h.fs]at hf;cases hf
   ·rw[e,(h.r 0 (by omega)).h]at hf;cases hf
   ·rw[e,(h.r 1 (by omega)).h]at hf;cases hf
   ·rw[e,(h.r 2 (by omega)).h]at hf;cases hf
   ·rw[e,(h.r 3 (by omega)).h]at hf;cases hf
  ·rw[setN_ne e]
   exact h.nf j (by omega)
 ·have hfr:∀j,j<k→fo j≠f:=fun j hj e=>by
   obtain⟨_,L,b2⟩:=h.o j hj
   rw[e,hf]at b2;cases b2
  by_cases e1:i=k
  ·subst e1
   rw[setN_same,setN_ne (Ne.symm hne)]
   exact fun e=>hfr j (by omega) e.symm
  ·rw[setN_ne e1]
   by_cases e2:j=k
   ·subst e2
    rw[setN_same]
    exact hfr i (by omega)
   ·rw[setN_ne e2]
    exact h.fj i j (by omega) (by omega) hne
theorem KAt.new_out {f:Nat}(hu:∀x,t x≠.free→u x=t x)(hf:t f=.free):KOut t u (KF K k ls gs fo) (KF K (k+1) ls gs (setN fo k f)):=by
 refine⟨fun y hy _=>hu y hy,fun x hx=>?_⟩
 rcases hx with rfl|rfl|⟨j,hj,rfl⟩|⟨j,hj,hl,rfl⟩|⟨j,hj,rfl⟩
 ·exact .inl (.inl rfl)
 ·exact .inl (.inr (.inl rfl))
 ·exact .inl (.inr (.inr (.inl ⟨j,hj,rfl⟩)))
 ·exact .inl (.inr (.inr (.inr (.inl ⟨j,hj,hl,rfl⟩))))
 ·by_cases e:j=k
  ·subst e;rw[setN_same];exact .inr hf
  ·rw[setN_ne e];exact .inl (.inr (.inr (.inr (.inr ⟨j,by omega,rfl⟩))))
theorem KAt.keep (h:KAt t K ml cs env k ls gs ob fo)(hu:∀x,t x≠.free→u x=t x):KAt u K ml cs env k ls gs ob fo:=by
 have key:∀{y:Nat} {c:Cell},t y=c→c≠.free→u y=c:=fun hy hne=>by rw[hu _ (by rw[hy];exact hne)];exact hy
 exact⟨key h.m (by simp),h.len,h.c22,h.c23,h.c24,key h.fr (by simp),key h.ev (by simp),key h.vs (by simp),key h.fs (by simp),fun i hi=>by
  obtain⟨a1,a2,a3,a4,a5,a6⟩:=h.r i hi
  exact⟨a1,a2,key a3 (by simp),fun hl=>key (a4 hl) (by simp),a5,a6⟩,fun j hj=>by
  obtain⟨b1,L,b2⟩:=h.o j hj
  exact⟨key b1 (by simp),L,key b2 (by simp)⟩,h.nd,h.nf,h.fj,h.ng,h.ek⟩
theorem KAt.step (h:KAt t K ml cs env k ls gs ob fo){i:Nat}{v:VV}(hi:25≤i)(hi2:i<30):KAt (t.set K.p (.obj 59 (cs.set i v))) K ml (cs.set i v) env k ls gs ob fo:=by
 have key:∀{y:Nat} {c:Cell},t y=c→y≠K.p→(t.set K.p (.obj 59 (cs.set i v))) y=c:=fun hy hne=>by rw[St.set_other _ _ hne];exact hy
 refine⟨St.set_same _ _ _,by rw[List.length_set];exact h.len,?_,?_,?_,key h.fr (neC h.fr h.m (by simp)),key h.ev (neC h.ev h.m (by simp)),key h.vs (neC h.vs h.m (by simp)),key h.fs (neC h.fs h.m (by simp)),fun j hj=>?_,fun j hj=>?_,h.nd,h.nf,h.fj,h.ng,h.ek⟩
 ·rw[List.getElem?_set_ne (by omega)];exact h.c22
 ·rw[List.getElem?_set_ne (by omega)];exact h.c23
 ·rw[List.getElem?_set_ne (by omega)];exact h.c24
 ·obtain⟨a1,a2,a3,a4,a5,a6⟩:=h.r j hj
  have hb:=offK_lt hj
  exact⟨by rw[List.getElem?_set_ne (by omega)];exact a1,by rw[List.getElem?_set_ne (by omega)];exact a2,key a3 (neC a3 h.m (by simp)),fun hl=>key (a4 hl) (neC (a4 hl) h.m (by simp)),a5,a6⟩
 ·obtain⟨b1,L,b2⟩:=h.o j hj
  exact⟨key b1 (neC b1 h.m (by simp)),L,key b2 (neC b2 h.m (by simp))⟩
theorem KAt.step_out {cs':List VV}:KOut t (t.set K.p (.obj 59 cs')) (KF K k ls gs fo) (KF K k ls gs fo):=
 ⟨fun y hy hF=>St.set_other _ _ (fun e=>hF (.inl e)),fun y hy=>.inl hy⟩
end
theorem app2K {k:VV→St→Prop}{e:TypeId}{z:List VV}{x y:VV}{s:St}:vappend k e ⟨.int .i64,1,8,true,z⟩ [[x],[y]] [] .full s=k (.lst [[x],[y]] .full) s:=by
 unfold vappend
 simp
attribute [local go_sem] p_lkQ p_upQ cvpK nilpK onenK app2K
def mlK (tx:List UInt8)(bd cd:VV):VV:=.lst [[.bool true,.str [109,97,105,110],.lst [] .no,bd,.str tx,cd]] .no
theorem KputA (S:St)(K:Kc)(ml:VV)(cs:List VV)(env:List (List UInt8×Nat))(k:Nat)(ls:Nat→List (List Int))(gs ob fo:Nat→Nat)(h:KAt S K ml cs env k ls gs ob fo)(j:Nat)(hj:j<4)(r:List Int)(hr:Sm3 r)(hn:(ls j).length<1000000)(o:Own) :
  SCalls Tryz.prog 34 [.ptr K.p (offK j),.lst (intsL r) o] S fun w u=>∃q:St×List VV×Nat,w=.ret (.tup [])∧u=q.1∧KAt q.1 K ml q.2.1 env k (setN ls j (putK r (ls j))) (setN gs j q.2.2) ob fo ∧
   KOut S q.1 (KF K k ls gs fo) (KF K k (setN ls j (putK r (ls j))) (setN gs j q.2.2) fo)∧∀x,25≤x→x<30→q.2.1[x]?=cs[x]?:=
 SCalls.mono (Kput_S S K.p (offK j) (K.ms j) (gs j) cs (ls j) r o h.m (h.r j hj) hr (by rw[h.len];exact(offK_lt hj).1) hn) fun w u ⟨q,h1,h2,h3⟩=>by
  subst h2
  exact⟨(q.2,cs.set (offK j) (rowsF (putK r (ls j)) q.1),q.1),h1,rfl,h.put hj h3,h.put_out hj h3,fun x hx1 hx2=>by rw[List.getElem?_set_ne (by have:=(offK_lt hj).2;omega)]⟩
theorem ptA_map {ob:Nat→Nat}{v:List UInt8}{i:Nat}:∀{env:List (List UInt8×Nat)},ptA v (ob i) (env.map fun x=>(x.1,ob x.2))=(ptA v i env).map fun x=>(x.1,ob x.2)
 |[]=>rfl
 |a::env=>by
  have ih:=ptA_map (ob:=ob) (v:=v) (i:=i) (env:=env)
  simp only[List.map_cons,ptA]
  split
  ·rfl
  ·rw[List.map_cons,ih]
theorem ptA_mem {v:List UInt8}{i:Nat}{x:List UInt8×Nat}:∀{env:List (List UInt8×Nat)},x∈ptA v i env→x∈env∨x=(v,i)
 |[],h=>by simp[ptA]at h;exact .inr h
 |a::env,h=>by
  simp only[ptA]at h
  split at h
  ·rcases List.mem_cons.1 h with e|e
   ·exact .inr e
   ·exact .inl (by simp[e])
  ·rcases List.mem_cons.1 h with e|e
   ·exact .inl (by simp[e])
   ·rcases ptA_mem e with e|e
    ·exact .inl (by simp[e])
    ·exact .inr e
set_option maxHeartbeats 8000000 in
theorem Kset_S (t:St)(K:Kc)(tx:List UInt8)(bd cd:VV)(cs:List VV)(env:List (List UInt8×Nat))(k:Nat)(ls:Nat→List (List Int))(gs ob fo:Nat→Nat)(h:KAt t K (mlK tx bd cd) cs env k ls gs ob fo)
  (i:Nat) (hi:i<k) (v:List UInt8) (n:Nat) (hk:(lkA (tx++[46]++v) (plcP K.V)).getD 0=(n:Int)) (hn:n<256) (hi2:i<256) (htl:tx.length≤1000) (hvl:v.length≤1000) (h0:(ls 0).length<1000000) (h2:(ls 2).length<1000000) :
  SCalls Tryz.prog 33 [.ptr K.p 0,.ptr K.a 0,.str v,.ptr (ob i) 0] t fun w u=>∃q:St,w=.ret (.tup [])∧u=q∧∃cs' g1 g4,KAt q K (mlK tx bd cd) cs' (ptA v i env) k (setN (setN ls 0 (putK [(n:Int),(i:Int)] (ls 0))) 2 (putK [(n:Int),(i:Int)] (ls 2))) (setN (setN gs 0 g1) 2 g4) ob fo ∧
   KOut t q (KF K k ls gs fo) (KF K k (setN (setN ls 0 (putK [(n:Int),(i:Int)] (ls 0))) 2 (putK [(n:Int),(i:Int)] (ls 2))) (setN (setN gs 0 g1) 2 g4) fo)∧∀j,25≤j→j<30→cs'[j]?=cs[j]?:=by
 have hm:=h.m
 have hfr:=h.fr
 have hev:=h.ev
 have hvs:=h.vs
 have hc22:=h.c22
 have hc23:=h.c23
 have hl:=h.len
 obtain⟨hob,_⟩:=h.o i hi
 have n1:¬ K.p=K.av:=neC h.m h.ev (by simp)
 have n2:¬ K.a=K.av:=neC h.fr h.ev (by simp)
 have n3:¬ ob i=K.av:=neC hob h.ev (by simp)
 have n4:¬ K.vm=K.av:=fun e=>by have:=h.nd;unfold Kc.maps at this;rw[e]at this;simp at this
 have l22:22+1≤cs.length:=by omega
 have l23:23+1≤cs.length:=by omega
 have l30:30+1≤cs.length:=by omega
 have l36:36+1≤cs.length:=by omega
 have hlx:(tx++[46]).length=tx.length+1:=by simp
 have hq:ptA v (ob i) (env.map fun x=>(x.1,ob x.2))=(ptA v i env).map fun x=>(x.1,ob x.2):=ptA_map
 have HE1:=h.map (x:=K.av) (es:=mpV encQ ((ptA v i env).map fun x=>(x.1,ob x.2))) (env':=ptA v i env) (.inl ⟨rfl,rfl⟩) (fun x hx=>by
  rcases ptA_mem hx with e|e
  ·exact h.ek x e
  ·subst e;exact hi)
 have HO1:=h.map_out (x:=K.av) (c:=.map (mpV encQ ((ptA v i env).map fun x=>(x.1,ob x.2)))) (.inl rfl)
 have hsm:Sm3 [(n:Int),(i:Int)]:=⟨by simp,by intro z hz;simp at hz;omega⟩
 have w0:=fun S cs ls gs h hn=>KputA S K (mlK tx bd cd) cs (ptA v i env) k ls gs ob fo h 0 (by omega) [(n:Int),(i:Int)] hsm hn .full
 have w2:=fun S cs ls gs h hn=>KputA S K (mlK tx bd cd) cs (ptA v i env) k ls gs ob fo h 2 (by omega) [(n:Int),(i:Int)] hsm hn .full
 have e0:offK 0=30:=rfl
 have e2:offK 2=36:=rfl
 have ei:intsL [(n:Int),(i:Int)]=[[.int .i64 (n:Int)],[.int .i64 (i:Int)]]:=rfl
 simp only[e0,e2,ei]at w0 w2
 have w0':=w0 _ _ _ _ HE1 h0
 have w2':=fun S cs g h=>w2 S cs (setN ls 0 (putK [(n:Int),(i:Int)] (ls 0))) (setN gs 0 g) h (by rw[setN_ne (by omega)];exact h2)
 have H:=Lib.hid h
 unfold mlK at hc22
 have HK:=Lib.hid h0
 have HK2:=Lib.hid h2
 have HO1':=Lib.hid HO1
 clear h h0 h2 HE1 HO1 w0 w2 e0 e2 ei hsm
 refine G_enter Tryz.func33 rfl Tryz.ntmps33 rfl fun Q hQ hQe=>?_
 (repeat'(first|refine Ctl ?_|((with_reducible refine Kof.use hK ?_);clear hK hE K E)|((with_reducible refine Eof.use hE ?_);(try clear hK hE K E))|((with_reducible refine Kof.use hKh ?_);clear hKh Kh)|((with_reducible refine Kof.use hKb (P_next ?_));clear hKb Kb)|(with_reducible first|refine G_plan 2 [] [0,1,2,3,4,5,6,7,8,9,10,11,12,13,14,15,16,17,18,19] hQe fun K E hK hE=>?_|refine G_plan 3 [([0,1,2,3,4,5,6,7,8],9,[[]])] [] hQe fun K E hK hE=>?_|refine G_plan 4 [([0,1,2,3,4,5,6,7,8,9,10,11,12],13,[[0,1,2]]),([],14,[[],[]])] [] hQe fun K E hK hE=>?_)|((with_reducible refine W_cond (fun h=>?_) (fun h=>?_))<;>(try(exfalso;first|assumption|omega)))|((first|(with_reducible first|refine G_region fun K E hK hE=>?_|refine W_if ?_|refine W_ifS ?_|refine P_heads fun Kh hKh=>?_|refine P_fin fun Kh hKh=>?_|refine P_each fun Kb hKb=>?_|refine W_and ?_)|((with_reducible refine call_ex can34 (w0') (fun a h=>?_));(obtain⟨a1,a2,a3⟩:=h;have b1:=a1.m;have b2:=a1.fr;have b3:=(a1.o i hi).1;have b4:=a1.len))|((with_reducible refine call_ex can34 ((w2' _ _ _ (by assumption))) (fun a h=>?_));(obtain⟨a1,a2,a3⟩:=h;have b1:=a1.m;have b2:=a1.fr;have b3:=(a1.o i hi).1;have b4:=a1.len))|((with_reducible refine W_app (fun o2 ho=>?_));(try simp(disch:=assumption) only[disown_set,disown_own,ownok_o,ownok_m,List.length_map,List.length_cons,List.length_nil,Nat.zero_add,hk,hq,hlx]at ho);(repeat(obtain⟨_,ho⟩:=ho)))|((with_reducible refine W_appM (fun bM hM=>?_)))|((with_reducible refine W_app0 (fun bM hM=>?_))))<;>(try simp(disch:=first|assumption|omega) only[go_sem,seval,hk,hq,hlx, *]))))
 rename_i a' c1 c2 c3 _ _ _ _
 have he:setN ls 0 (putK [(n:Int),(i:Int)] (ls 0)) 2=ls 2:=setN_ne (by decide)
 rw[he]at a1 a2
 (first|refine W_ret res33 hQ ?_|refine W_norm res33 hQ ?_|refine G_pan hQ ?_)
 exact⟨_,a.1,Wk.refl _,Fg.refl _,a.1,rfl,rfl,a.2.1,a'.2.2,a.2.2,a1,(HO1'.out.trans c2).trans a2,fun j h1 h2=>(a3 j h1 h2).trans (c3 j h1 h2)⟩
end Go.Proofs.YtadbggfpnhkmbaaGreat
namespace Go.Proofs.YtadbggfpnhkmbaaGreat
open Go.RowKit
structure McAt (cs:List VV) (most steps:Int) (stop:Bool):Prop where
 len:cs.length=38
 most:cs[27]?=some (.int .i64 most)
 steps:cs[28]?=some (.int .i64 steps)
 stop:cs[29]?=some (.bool stop)
theorem McAt.put {cs:List VV}{most steps:Int}{stop:Bool}(h:McAt cs most steps stop){i:Nat}(hi:30≤i)(v:VV):McAt (cs.set i v) most steps stop:=by
 refine⟨by rw[List.length_set];exact h.len,?_,?_,?_⟩
 ·rw[List.getElem?_set_ne (by omega)];exact h.most
 ·rw[List.getElem?_set_ne (by omega)];exact h.steps
 ·rw[List.getElem?_set_ne (by omega)];exact h.stop
def stepC (cs:List VV)(most steps:Int):List VV:=if steps<most then cs.set 28 (.int .i64 (steps+1))else cs.set 29 (.bool true)
theorem set_self_K {cs:List VV}{i:Nat}{v:VV}(h:cs[i]?=some v):cs.set i v=cs:=by
 apply List.ext_getElem?
 intro j
 by_cases e:i=j
 ·subst e;rw[List.getElem?_set_self (List.getElem?_eq_some_iff.1 h).1,h]
 ·rw[List.getElem?_set_ne e]
set_option maxHeartbeats 4000000 in
theorem Kstep_S (t:St)(b:Nat)(cs:List VV)(most steps:Int)(hb:t b=.obj 59 cs)(hM:McAt cs most steps false)(h0:0≤steps)(h1:steps≤100000) :
  SRet Tryz.prog 18 [.ptr b 0] t (.bool (decide (steps<most))) (t.set b (.obj 59 (stepC cs most steps))):=by
 obtain⟨hlen,c27,c28,c29⟩:=hM
 have l29:(29:Nat)<cs.length:=by omega
 have l28:(28:Nat)<cs.length:=by omega
 have m29:(29:Nat)+1≤cs.length:=by omega
 have m28:(28:Nat)+1≤cs.length:=by omega
 have n29:(28:Nat)+1+1≤cs.length:=by omega
 by_cases hlt:steps<most
 ·have hd:decide (steps<most)=true:=decide_eq_true hlt
  have hge:(most≤steps)=False:=eq_false (by omega)
  have hs:splice cs 29 [.bool false]=cs:=by rw[splice1 l29];exact set_self_K c29
  have hs2:splice cs 28 [.int .i64 (steps+1)]=cs.set 28 (.int .i64 (steps+1)):=splice1 l28
  have c29':(cs.set 28 (.int .i64 (steps+1)))[29]?=some (.bool false):=by rw[List.getElem?_set_ne (by omega)];exact c29
  have m29':(29:Nat)+1≤(cs.set 28 (.int .i64 (steps+1))).length:=by rw[List.length_set];exact m29
  have hc:stepC cs most steps=cs.set 28 (.int .i64 (steps+1)):=by unfold stepC;rw[if_pos hlt]
  have HW:IntKind.i64.wrap (steps+1)=steps+1:=by rw[IntKind.wrap_i64];omega
  rw[hd,hc]
  generalize hCS:cs.set 28 (.int .i64 (steps+1))=CS at *
  clear hlt hd hc
  refine G_enter Tryz.func18 rfl Tryz.ntmps18 rfl fun Q hQ hQe=>?_
  (repeat'(first|refine Ctl ?_|((with_reducible refine Kof.use hK ?_);clear hK hE K E)|((with_reducible refine Eof.use hE ?_);(try clear hK hE K E))|((with_reducible refine Kof.use hKh ?_);clear hKh Kh)|((with_reducible refine Kof.use hKb (P_next ?_));clear hKb Kb)|(with_reducible refine G_plan 1 [([0,1,2,3,4,5,6,7,8,9,10,11,12,13,14,15,16,17],18,[[]])] [] hQe fun K E hK hE=>?_)|((with_reducible refine W_cond (fun h=>?_) (fun h=>?_))<;>(try(exfalso;first|assumption|omega)))|((first|(with_reducible first|refine G_region fun K E hK hE=>?_|refine W_if ?_|refine W_ifS ?_|refine P_heads fun Kh hKh=>?_|refine P_fin fun Kh hKh=>?_|refine P_each fun Kb hKb=>?_|refine W_and ?_)|((with_reducible refine W_gd (fun h=>?_) (fun h=>?_))<;>(try(exfalso;first|assumption|omega))))<;>(try simp(disch:=first|assumption|omega) only[go_sem,seval,hge,hs,hs2,HW, *]))))
  all_goals(first|refine W_ret res18 hQ ?_|refine W_norm res18 hQ ?_|refine G_pan hQ ?_)
  all_goals(refine⟨_,_,Wk.of_eq ?_,?_,rfl,rfl⟩)
  all_goals first|rfl|(exact z_fg)
 ·have hd:decide (steps<most)=false:=decide_eq_false hlt
  have hge:(most≤steps)=True:=eq_true (by omega)
  have hs:splice cs 29 [.bool true]=cs.set 29 (.bool true):=splice1 l29
  have c29':(cs.set 29 (.bool true))[29]?=some (.bool true):=List.getElem?_set_self l29
  have m29':(29:Nat)+1≤(cs.set 29 (.bool true)).length:=by rw[List.length_set];exact m29
  have hc:stepC cs most steps=cs.set 29 (.bool true):=by unfold stepC;rw[if_neg hlt]
  rw[hd,hc]
  generalize hCS:cs.set 29 (.bool true)=CS at *
  clear hlt hd hc
  refine G_enter Tryz.func18 rfl Tryz.ntmps18 rfl fun Q hQ hQe=>?_
  (repeat'(first|refine Ctl ?_|((with_reducible refine Kof.use hK ?_);clear hK hE K E)|((with_reducible refine Eof.use hE ?_);(try clear hK hE K E))|((with_reducible refine Kof.use hKh ?_);clear hKh Kh)|((with_reducible refine Kof.use hKb (P_next ?_));clear hKb Kb)|(with_reducible refine G_plan 1 [([0,1,2,3,4,5,6,7,8,9,10,11,12,13,14,15,16,17],18,[[]])] [] hQe fun K E hK hE=>?_)|((with_reducible refine W_cond (fun h=>?_) (fun h=>?_))<;>(try(exfalso;first|assumption|omega)))|((first|(with_reducible first|refine G_region fun K E hK hE=>?_|refine W_if ?_|refine W_ifS ?_|refine P_heads fun Kh hKh=>?_|refine P_fin fun Kh hKh=>?_|refine P_each fun Kb hKb=>?_|refine W_and ?_)|((with_reducible refine W_gd (fun h=>?_) (fun h=>?_))<;>(try(exfalso;first|assumption|omega))))<;>(try simp(disch:=first|assumption|omega) only[go_sem,seval,hge,hs, *]))))
  all_goals(first|refine W_ret res18 hQ ?_|refine W_norm res18 hQ ?_|refine G_pan hQ ?_)
  all_goals(refine⟨_,_,Wk.of_eq ?_,?_,rfl,rfl⟩)
  all_goals first|rfl|(exact z_fg)
theorem lst_eq {α:Type}{a b:List α}(hl:a.length=b.length)(h:∀i:Nat,i<a.length→a[i]?=b[i]?):a=b:=by
 apply List.ext_getElem?
 intro i
 by_cases hi:i<a.length
 ·exact h i hi
 ·rw[List.getElem?_eq_none (by omega),List.getElem?_eq_none (by omega)]
def rowsV (l:List (List Int)):List (List VV):=l.map fun r=>[rowV r]
theorem rowsV_len {l:List (List Int)}:(rowsV l).length=l.length:=by simp[rowsV]
theorem rowsV_at {l:List (List Int)}{i:Nat}{r:List Int}(h:l[i]?=some r):(rowsV l)[i]?=some [.lst (intsL r) .no]:=by simp[rowsV,h,rowV]
def RowsOk (l:List (List Int)):Prop:=l.length≤1000000000∧∀r,r∈l→r.length≤1000000000
set_option maxHeartbeats 2000000 in
theorem SameInts_S (a b:List Int)(o1 o2:Own)(ha:a.length≤140737488355328)(hb:b.length≤140737488355328)(t:St):SRet Tryz.prog 12 [.lst (intsL a) o1,.lst (intsL b) o2] t (.bool (decide (a=b))) t:=by
 have la:(intsL a).length=a.length:=intsL_len
 have lb:(intsL b).length=b.length:=intsL_len
 by_cases hl:a.length=b.length
 ·have hli:((a.length:Int)=(b.length:Int))=True:=eq_true (by omega)
  have hlz:((b.length:Int)=(b.length:Int))=True:=eq_true rfl
  refine G_enter Tryz.func12 rfl Tryz.ntmps12 rfl fun Q hQ hQe=>?_
  (repeat'(first|refine Ctl ?_|((with_reducible refine Kof.use hK ?_);clear hK hE K E)|((with_reducible refine Eof.use hE ?_);(try clear hK hE K E))|((with_reducible refine Kof.use hKh ?_);clear hKh Kh)|((with_reducible refine Kof.use hKb (P_next ?_));clear hKb Kb)|(with_reducible refine G_plan 6 [] [0,1,2,3,4,5,6,7,8] hQe fun K E hK hE=>?_)|((with_reducible refine W_cond (fun h=>?_) (fun h=>?_))<;>(try(exfalso;first|assumption|omega)))|((first|(with_reducible first|refine G_region fun K E hK hE=>?_|refine W_if ?_|refine W_ifS ?_|refine P_heads fun Kh hKh=>?_|refine P_fin fun Kh hKh=>?_|refine P_each fun Kb hKb=>?_|refine W_and ?_))<;>(try simp(disch:=first|assumption|omega) only[go_sem,seval,la,lb,hl, *]))))
  refine G_loop (fun m env s'=>∃i:Nat,i≤a.length∧m+i=a.length∧s'=t∧Hid (∀j:Nat,j<i→a[j]?=b[j]?)∧env 0=.lst (intsL a) o1∧env 1=.lst (intsL b) o2∧env 5=.int .i64 i) a.length ?_ ?_
  ·exact⟨t,Fg.refl _,0,by omega,by omega,rfl,Lib.hid (fun j hj=>by omega),z_sl,z_sl,z_sl⟩
  ·rintro m env s' ⟨i,hi,hm,rfl,HE,e0,e1,e5⟩
   by_cases hlt:i<a.length
   ·obtain⟨c,hc⟩:=uget hlt
    obtain⟨d,hd⟩:=uget (l:=b) (i:=i) (by omega)
    have hsx:=intsL_at hc
    have hsy:=intsL_at hd
    have HC:=Lib.hid hc
    have HD:=Lib.hid hd
    clear hc hd
    by_cases hcd:c=d
    ·have HCD:=Lib.hid hcd
     have hcc:(c=d)=True:=eq_true hcd
     (repeat'(first|refine Ctl ?_|((with_reducible refine Kof.use hK ?_);clear hK hE K E)|((with_reducible refine Eof.use hE ?_);(try clear hK hE K E))|((with_reducible refine Kof.use hKh ?_);clear hKh Kh)|((with_reducible refine Kof.use hKb (P_next ?_));clear hKb Kb)|(with_reducible refine G_plan 6 [] [0,1,2,3,4,5,6,7,8] hQe fun K E hK hE=>?_)|((with_reducible refine W_cond (fun h=>?_) (fun h=>?_))<;>(try(exfalso;first|assumption|omega)))|((first|(with_reducible first|refine G_region fun K E hK hE=>?_|refine W_if ?_|refine W_ifS ?_|refine P_heads fun Kh hKh=>?_|refine P_fin fun Kh hKh=>?_|refine P_each fun Kb hKb=>?_|refine W_and ?_))<;>(try simp(disch:=first|assumption|omega) only[go_sem,seval,la,lb,hl,hsx,hsy, *]))))
     refine⟨s',Fg.refl _,m - 1,by omega,i+1,by omega,by omega,rfl,Lib.hid (fun j hj=>?_),z_sl,z_sl,z_sl⟩
     by_cases hj2:j=i
     ·subst hj2;rw[HC.out,HD.out,HCD.out]
     ·exact HE.out j (by omega)
    ·have hcc:(c=d)=False:=eq_false hcd
     (repeat'(first|refine Ctl ?_|((with_reducible refine Kof.use hK ?_);clear hK hE K E)|((with_reducible refine Eof.use hE ?_);(try clear hK hE K E))|((with_reducible refine Kof.use hKh ?_);clear hKh Kh)|((with_reducible refine Kof.use hKb (P_next ?_));clear hKb Kb)|(with_reducible refine G_plan 6 [] [0,1,2,3,4,5,6,7,8] hQe fun K E hK hE=>?_)|((with_reducible refine W_cond (fun h=>?_) (fun h=>?_))<;>(try(exfalso;first|assumption|omega)))|((first|(with_reducible first|refine G_region fun K E hK hE=>?_|refine W_if ?_|refine W_ifS ?_|refine P_heads fun Kh hKh=>?_|refine P_fin fun Kh hKh=>?_|refine P_each fun Kb hKb=>?_|refine W_and ?_))<;>(try simp(disch:=first|assumption|omega) only[go_sem,seval,la,lb,hl,hsx,hsy, *]))))
     all_goals(first|refine W_ret res12 hQ ?_|refine W_norm res12 hQ ?_|refine G_pan hQ ?_)
     all_goals(refine⟨_,_,Wk.of_eq ?_,?_,rfl,rfl⟩)
     ·rw[decide_eq_false (fun h=>hcd (by have:=HC.out;rw[h,HD.out]at this;injection this with this;exact this.symm))]
     ·(exact z_fg)
   ·(repeat'(first|refine Ctl ?_|((with_reducible refine Kof.use hK ?_);clear hK hE K E)|((with_reducible refine Eof.use hE ?_);(try clear hK hE K E))|((with_reducible refine Kof.use hKh ?_);clear hKh Kh)|((with_reducible refine Kof.use hKb (P_next ?_));clear hKb Kb)|(with_reducible refine G_plan 6 [] [0,1,2,3,4,5,6,7,8] hQe fun K E hK hE=>?_)|((with_reducible refine W_cond (fun h=>?_) (fun h=>?_))<;>(try(exfalso;first|assumption|omega)))|((first|(with_reducible first|refine G_region fun K E hK hE=>?_|refine W_if ?_|refine W_ifS ?_|refine P_heads fun Kh hKh=>?_|refine P_fin fun Kh hKh=>?_|refine P_each fun Kb hKb=>?_|refine W_and ?_))<;>(try simp(disch:=first|assumption|omega) only[go_sem,seval,la,lb,hl, *]))))
    all_goals(first|refine W_ret res12 hQ ?_|refine W_norm res12 hQ ?_|refine G_pan hQ ?_)
    all_goals(refine⟨_,_,Wk.of_eq ?_,?_,rfl,rfl⟩)
    ·rw[decide_eq_true (lst_eq hl (fun j hj=>HE.out j (by omega)))]
    ·(exact z_fg)
 ·have hli:((a.length:Int)=(b.length:Int))=False:=eq_false (by omega)
  refine G_enter Tryz.func12 rfl Tryz.ntmps12 rfl fun Q hQ hQe=>?_
  (repeat'(first|refine Ctl ?_|((with_reducible refine Kof.use hK ?_);clear hK hE K E)|((with_reducible refine Eof.use hE ?_);(try clear hK hE K E))|((with_reducible refine Kof.use hKh ?_);clear hKh Kh)|((with_reducible refine Kof.use hKb (P_next ?_));clear hKb Kb)|(with_reducible refine G_plan 6 [] [0,1,2,3,4,5,6,7,8] hQe fun K E hK hE=>?_)|((with_reducible refine W_cond (fun h=>?_) (fun h=>?_))<;>(try(exfalso;first|assumption|omega)))|((first|(with_reducible first|refine G_region fun K E hK hE=>?_|refine W_if ?_|refine W_ifS ?_|refine P_heads fun Kh hKh=>?_|refine P_fin fun Kh hKh=>?_|refine P_each fun Kb hKb=>?_|refine W_and ?_))<;>(try simp(disch:=first|assumption|omega) only[go_sem,seval,la,lb, *]))))
  all_goals(first|refine W_ret res12 hQ ?_|refine W_norm res12 hQ ?_|refine G_pan hQ ?_)
  all_goals(refine⟨_,_,Wk.of_eq ?_,?_,rfl,rfl⟩)
  ·rw[decide_eq_false (fun h=>hl (by rw[h]))]
  ·(exact z_fg)
set_option maxHeartbeats 4000000 in
theorem SameRows_S (a b:List (List Int))(o1 o2:Own)(ha:RowsOk a)(hb:RowsOk b)(t:St):SRet Tryz.prog 5 [.lst (rowsV a) o1,.lst (rowsV b) o2] t (.bool (decide (a=b))) t:=by
 have hl1:(rowsV a).length=a.length:=rowsV_len
 have hl2:(rowsV b).length=b.length:=rowsV_len
 obtain⟨ha1,ha2⟩:=ha
 obtain⟨hb1,hb2⟩:=hb
 by_cases hlen:a.length=b.length
 ·generalize hR:decide (a=b)=R
  have HR:=Lib.hid hR
  clear hR
  refine G_enter Tryz.func5 rfl Tryz.ntmps5 rfl fun Q hQ hQe=>?_
  (repeat'(first|refine Ctl ?_|((with_reducible refine Kof.use hK ?_);clear hK hE K E)|((with_reducible refine Eof.use hE ?_);(try clear hK hE K E))|((with_reducible refine Kof.use hKh ?_);clear hKh Kh)|((with_reducible refine Kof.use hKb (P_next ?_));clear hKb Kb)|(with_reducible refine G_plan 6 [([0,1,2,3,4,5,6,7],8,[[]])] [9] hQe fun K E hK hE=>?_)|((with_reducible refine W_cond (fun h=>?_) (fun h=>?_))<;>(try(exfalso;first|assumption|omega)))|((first|(with_reducible first|refine G_region fun K E hK hE=>?_|refine call_ret can12 (SameInts_S _ _ _ _ (by assumption) (by assumption) _) ?_|refine W_if ?_|refine W_ifS ?_|refine P_heads fun Kh hKh=>?_|refine P_fin fun Kh hKh=>?_|refine P_each fun Kb hKb=>?_|refine W_and ?_))<;>(try simp(disch:=first|assumption|omega) only[go_sem,seval,hl1,hl2,hlen, *]))))
  refine L_loop (fun m env s'=>∃(i:Nat),i≤b.length∧m+i=b.length∧Hid (a.take i=b.take i)∧s'=t∧env 0=.lst (rowsV a) o1∧env 1=.lst (rowsV b) o2∧env 5=.int .i64 i) b.length
   ⟨0,by omega,by omega,Lib.hid rfl,rfl,z_sl,z_sl,z_sl⟩ ?_
  rintro m env s' ⟨i,hi,hm,HH,rfl,e0,e1,e5⟩
  by_cases h2:i<b.length
  ·obtain⟨x,hx⟩:∃x,a[i]?=some x:=⟨_,List.getElem?_eq_getElem (by omega)⟩
   obtain⟨y,hy⟩:∃y,b[i]?=some y:=⟨_,List.getElem?_eq_getElem h2⟩
   have sx:=rowsV_at hx
   have sy:=rowsV_at hy
   have w1:=fun s=>SameInts_S x y .no .no (by have:=ha2 x (List.mem_of_getElem? hx);omega) (by have:=hb2 y (List.mem_of_getElem? hy);omega) s
   have t1:a.take (i+1)=a.take i++[x]:=by rw[List.take_add_one,hx];rfl
   have t2:b.take (i+1)=b.take i++[y]:=by rw[List.take_add_one,hy];rfl
   have HT:x=y→a.take (i+1)=b.take (i+1):=fun e=>by rw[t1,t2,HH.out,e]
   have HN:¬ x=y→a≠b:=fun e=>by rintro rfl;exact e (by rw[hx]at hy;injection hy)
   clear t1 t2 hx hy
   by_cases e:x=y
   ·have HT2:=Lib.hid (HT e)
    rw[show decide (x=y)=true by simp[e]]at w1
    clear HT HN e
    (repeat'(first|refine Ctl ?_|((with_reducible refine Kof.use hK ?_);clear hK hE K E)|((with_reducible refine Eof.use hE ?_);(try clear hK hE K E))|((with_reducible refine Kof.use hKh ?_);clear hKh Kh)|((with_reducible refine Kof.use hKb (P_next ?_));clear hKb Kb)|(with_reducible refine G_plan 6 [([0,1,2,3,4,5,6,7],8,[[]])] [9] hQe fun K E hK hE=>?_)|((with_reducible refine W_cond (fun h=>?_) (fun h=>?_))<;>(try(exfalso;first|assumption|omega)))|((first|(with_reducible first|refine G_region fun K E hK hE=>?_|refine call_ret can12 (w1 _) ?_|refine call_ret can12 (SameInts_S _ _ _ _ (by assumption) (by assumption) _) ?_|refine W_if ?_|refine W_ifS ?_|refine P_heads fun Kh hKh=>?_|refine P_fin fun Kh hKh=>?_|refine P_each fun Kb hKb=>?_|refine W_and ?_))<;>(try simp(disch:=first|assumption|omega) only[go_sem,seval,hl1,hl2,sx,sy,hlen, *]))))
    all_goals exact⟨m - 1,by omega,i+1,by omega,by omega,HT2,rfl,z_sl,z_sl,z_sl⟩
   ·have hR:R=false:=by rw[← HR.out];simp[HN e]
    subst hR
    rw[show decide (x=y)=false by simp[e]]at w1
    clear HT HN e
    (repeat'(first|refine Ctl ?_|((with_reducible refine Kof.use hK ?_);clear hK hE K E)|((with_reducible refine Eof.use hE ?_);(try clear hK hE K E))|((with_reducible refine Kof.use hKh ?_);clear hKh Kh)|((with_reducible refine Kof.use hKb (P_next ?_));clear hKb Kb)|(with_reducible refine G_plan 6 [([0,1,2,3,4,5,6,7],8,[[]])] [9] hQe fun K E hK hE=>?_)|((with_reducible refine W_cond (fun h=>?_) (fun h=>?_))<;>(try(exfalso;first|assumption|omega)))|((first|(with_reducible first|refine G_region fun K E hK hE=>?_|refine call_ret can12 (w1 _) ?_|refine call_ret can12 (SameInts_S _ _ _ _ (by assumption) (by assumption) _) ?_|refine W_if ?_|refine W_ifS ?_|refine P_heads fun Kh hKh=>?_|refine P_fin fun Kh hKh=>?_|refine P_each fun Kb hKb=>?_|refine W_and ?_))<;>(try simp(disch:=first|assumption|omega) only[go_sem,seval,hl1,hl2,sx,sy,hlen, *]))))
    all_goals(first|refine W_ret res5 hQ ?_|refine W_norm res5 hQ ?_|refine G_pan hQ ?_)
    all_goals(refine⟨_,_,Wk.of_eq ?_,?_,rfl,rfl⟩)
    all_goals first|rfl|(exact z_fg)
  ·have hR:R=true:=by
    have h3:=HH.out
    rw[List.take_of_length_le (by omega),List.take_of_length_le (by omega)]at h3
    rw[← HR.out];simp[h3]
   subst hR
   (repeat'(first|refine Ctl ?_|((with_reducible refine Kof.use hK ?_);clear hK hE K E)|((with_reducible refine Eof.use hE ?_);(try clear hK hE K E))|((with_reducible refine Kof.use hKh ?_);clear hKh Kh)|((with_reducible refine Kof.use hKb (P_next ?_));clear hKb Kb)|(with_reducible refine G_plan 6 [([0,1,2,3,4,5,6,7],8,[[]])] [9] hQe fun K E hK hE=>?_)|((with_reducible refine W_cond (fun h=>?_) (fun h=>?_))<;>(try(exfalso;first|assumption|omega)))|((first|(with_reducible first|refine G_region fun K E hK hE=>?_|refine call_ret can12 (SameInts_S _ _ _ _ (by assumption) (by assumption) _) ?_|refine W_if ?_|refine W_ifS ?_|refine P_heads fun Kh hKh=>?_|refine P_fin fun Kh hKh=>?_|refine P_each fun Kb hKb=>?_|refine W_and ?_))<;>(try simp(disch:=first|assumption|omega) only[go_sem,seval,hl1,hl2,hlen, *]))))
   all_goals(first|refine W_ret res5 hQ ?_|refine W_norm res5 hQ ?_|refine G_pan hQ ?_)
   all_goals(refine⟨_,_,Wk.of_eq ?_,?_,rfl,rfl⟩)
   all_goals first|rfl|(exact z_fg)
 ·have hR:decide (a=b)=false:=by
   have:a≠b:=fun e=>hlen (by rw[e])
   simp[this]
  rw[hR]
  have hln:((a.length:Int)=(b.length:Int))=False:=eq_false (by omega)
  clear hR
  refine G_enter Tryz.func5 rfl Tryz.ntmps5 rfl fun Q hQ hQe=>?_
  (repeat'(first|refine Ctl ?_|((with_reducible refine Kof.use hK ?_);clear hK hE K E)|((with_reducible refine Eof.use hE ?_);(try clear hK hE K E))|((with_reducible refine Kof.use hKh ?_);clear hKh Kh)|((with_reducible refine Kof.use hKb (P_next ?_));clear hKb Kb)|(with_reducible refine G_plan 6 [([0,1,2,3,4,5,6,7],8,[[]])] [9] hQe fun K E hK hE=>?_)|((with_reducible refine W_cond (fun h=>?_) (fun h=>?_))<;>(try(exfalso;first|assumption|omega)))|((first|(with_reducible first|refine G_region fun K E hK hE=>?_|refine call_ret can12 (SameInts_S _ _ _ _ (by assumption) (by assumption) _) ?_|refine W_if ?_|refine W_ifS ?_|refine P_heads fun Kh hKh=>?_|refine P_fin fun Kh hKh=>?_|refine P_each fun Kb hKb=>?_|refine W_and ?_))<;>(try simp(disch:=first|assumption|omega) only[go_sem,seval,hl1,hl2,hln, *]))))
  all_goals(first|refine W_ret res5 hQ ?_|refine W_norm res5 hQ ?_|refine G_pan hQ ?_)
  all_goals(refine⟨_,_,Wk.of_eq ?_,?_,rfl,rfl⟩)
  all_goals first|rfl|(exact z_fg)
end Go.Proofs.YtadbggfpnhkmbaaGreat
