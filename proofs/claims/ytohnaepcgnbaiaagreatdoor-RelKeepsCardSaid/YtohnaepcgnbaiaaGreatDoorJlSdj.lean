/- Walks. Conditions: in the statements. -/
import Derived.Test.YtohnaepcgnbaiaaGreatDoorJlRqj
import Derived.Laws.AppendOwnNone
set_option maxHeartbeats 32000000
set_option linter.unusedSimpArgs false
set_option linter.unusedVariables false
set_option maxRecDepth 100000
namespace Go.Proofs.YtohnaepcgnbaiaaGreatDoor
open Go.RowKit
def QX (va vb:TW)(sz:Nat)(x:Tg):Bool:=decide (bX va x<sz) && decide (bX va x=bX vb x)
theorem ug (at_:TU)(a b:Nat):aj at_ [a,b]=at_.getD a []++at_.getD b []:=by simp[aj]
theorem BR (va:TW)(lo hi:Nat):DepF va (ge va lo hi):=fun x y e=>by
 simp only[ge,cO fun v hv=>e v hv]
theorem xS (at_:TU)(a:Nat):aj at_ [a]=at_.getD a []:=by simp[aj]
structure Law (s u:St) (K:OB) (q c:Nat) (ns:Td) (x y:Nat) (o:TU) (N:Nat):Prop where
 C:CMem u K q c 12 16384 ns (dsT x y) o
 D:DOk 12 (dsT x y) o
 L:o.map (·.length)=[cd (1+x),cd (1+x),cd (1+y)]
 xy:x<16/\y<16
 n:CntN ns N
 fr:∀z,s z≠.free->u z=s z/\¬ K.has z
section
variable {s u : St} {K : OB} {q c : Nat} {ns : Td} {x y : Nat} {o : TU} {N : Nat}
end
def SubR (ns:Td)(R:Tr)(m:Nat):Prop:=∃U:Td,U.length<=m/\∀t,t∈aL R->t∈ns\/t∈U
theorem FitN.ofR {ns:Td}{R:Tr}{N m B:Nat}(h:CntN ns N)(hR:SubR ns R m)(hB:N+m<=B):FitN ns R B:=fun X hX hs=>by
 obtain⟨U,h1,h2⟩:=h
 obtain⟨S,h3,h4⟩:=hR
 have:=ed (Y:=U++S) hX fun x hx=>by
  rw[f_]
  rcases hs x hx with h|h
  ·exact .inl (h2 x h)
  ·rcases h4 x h with h|h
   ·exact .inl (h2 x h)
   ·exact .inr h
 rw[p_]at this
 omega
theorem CntN.extR {ns ns':Td}{R:Tr}{N m:Nat}(h:CntN ns N)(hR:SubR ns R m)(he:ExtN ns ns' R):CntN ns' (N+m):=by
 obtain⟨U,h1,h2⟩:=h
 obtain⟨S,h3,h4⟩:=hR
 refine⟨U++S,by rw[p_];omega,fun t ht=>?_⟩
 rw[f_]
 rcases he.new t ht with h|h
 ·exact .inl (h2 t h)
 ·rcases h4 t h with h|h
  ·exact .inl (h2 t h)
  ·exact .inr h
theorem SubR.one {n:Nat}{ns:Td}(hN:NsOk n ns){v:Nat}{l h:Tr}(hl:l∈ns)(hh:h∈ns):SubR ns (mkT v l h) 1:=by
 refine⟨[mkT v l h],by simp,fun t ht=>?_⟩
 unfold mkT at ht ⊢
 split at ht
 ·exact .inl (hN.subs hl ht)
 ·rename_i e
  rw[if_neg e]
  simp only[aL,AT,f_]at ht
  rcases ht with rfl|ht|ht
  ·exact .inr (by simp)
  ·exact .inl (hN.subs hl ht)
  ·exact .inl (hN.subs hh ht)
def dy (l:List (Nat×Bool))(x:Tg):Bool:=l.all fun p=>x p.1 == p.2
theorem qE {v:Nat}{b:Bool}{l:List (Nat×Bool)}{x:Tg}:dy ((v,b)::l) x=((x v == b) && dy l x):=by simp[dy]
theorem Bv {S:TW}{l:List (Nat×Bool)}(h:∀p,p∈l->p.1∈S):DepF S (dy l):=fun x y e=>by
 unfold dy
 induction l with
 |nil=>rfl
 |cons p l ih=>
  rw[List.all_cons,List.all_cons,ih fun q hq=>h q (List.mem_cons_of_mem _ hq),e _ (h p (List.mem_cons_self ..))]
theorem Bu {l l':List (Nat×Bool)}(h:∀p,p∈l↔p∈l')(x:Tg):dy l x=dy l' x:=by
 rw[Bool.eq_iff_iff]
 simp only[dy,List.all_eq_true]
 exact⟨fun a p hp=>a p ((h p).2 hp),fun a p hp=>a p ((h p).1 hp)⟩
theorem Bw {l l':List (Nat×Bool)}{x:Tg}:dy (l++l') x=(dy l x && dy l' x):=by simp[dy]
theorem yP {v:Nat}{b:Bool}{l:List (Nat×Bool)}:(fun x:Tg=>if x v=true then(if b=true then dy l else fun _=>false) x else(if b=true then fun _=>false else dy l) x)=dy ((v,b)::l):=by
 funext x
 rw[qE]
 cases b<;>cases x v<;>simp
theorem tF {n:Nat}{x:Tg}:∀(vs:TW) (i:Nat),n / 2 ^ i<2 ^ vs.length->dy (iS n i vs) x=decide (bX vs x=n / 2 ^ i)
 |[],i,h=>by
  simp only[List.length_nil,Nat.pow_zero]at h
  have e:n / 2 ^ i=0:=Nat.lt_one_iff.1 h
  rw[e]
  rfl
 |v::vs,i,h=>by
  have e1:n / 2 ^ i=(n.testBit i).toNat+2 * (n / 2 ^ (i+1)):=by
   rw[Nat.testBit_eq_decide_div_mod_eq,Nat.pow_succ,<- Nat.div_div_eq_div_mul]
   rcases Nat.mod_two_eq_zero_or_one (n / 2 ^ i)with e|e<;>simp[e]<;>omega
  have ih:=tF (n:=n) (x:=x) vs (i+1) (by
   rw[List.length_cons,Nat.pow_succ]at h
   omega)
  rw[Bool.eq_iff_iff,decide_eq_true_iff]
  simp only[iS,qE,ih,Bool.and_eq_true,beq_iff_eq,decide_eq_true_eq,bX]
  rw[e1]
  generalize n / 2 ^ (i+1)=m
  generalize bX vs x=A
  cases x v<;>cases n.testBit i<;>simp<;>omega
section
variable {s : St} {K : OB} {n B N m : Nat} {ns : Td} {f g : (Nat -> Bool) -> Bool}
end
theorem Cc {s:St}{K:OB}{n B N v:Nat}{ns:Td}{f g:Tf}{S:TW}(hO:OMem s K n B ns)(hf:DepF S f)(hg:DepF S g)(hS:∀w,w∈S->v<w/\w<n)(hv:v<n)(mf:treeT n f∈ns)(mg:treeT n g∈ns)(hc:CntN ns N)(hB:N+1<=B) :
  OpFC 79 [.ptr K.s.p 0,.int .i64 v,.int .i64 (ixF n ns f:Nat),.int .i64 (ixF n ns g:Nat)] s K n B ns (N+1) (fun x=>if x v=true then g x else f x):=by
 have ok:∀{h:Tf},DepF S h->OkT n (v+1) (treeT n h):=fun {h} hd=>by
  have hk:n - (n - (v+1))=v+1:=by omega
  have h1:OkT n (v+1) (treeF n (n - (v+1)) h):=by
   have:=eM (n:=n) (k:=n - (v+1)) (g:=h) (by omega)
   rwa [hk]at this
  have h2:treeT n h=treeF n (n - (v+1)) h:=bY h1 fun x=>fK x (by omega) fun x y e=>hd x y fun w hw=>e w (by have:=hS w hw;omega) (hS w hw).2
  rw[h2];exact h1
 have hT:mkT v (treeT n f) (treeT n g)=treeT n fun x=>if x v=true then g x else f x:=by
  refine(bY (ld (Nat.zero_le v) hv (ok hf) (ok hg)) fun x=>?_).symm
  rw[lh,bU (hf.hang fun w hw=>(hS w hw).2),bU (hg.hang fun w hw=>(hS w hw).2)]
 have hone:=SubR.one hO.st.ok (v:=v) mf mg
 have w:=xU hO.st mf mg (ok hf) (ok hg) hv (.ofR hc hone hB)
 rw[hT]at w hone
 refine SCalls.mono (h:=w) ?_
 rintro w u ⟨⟨u,K',ns'⟩,rfl,rfl,h1,h2,h3⟩
 exact⟨(u,⟨K',K.o,K.c⟩,ns'),rfl,rfl,hO.mk h1 h2 h3,h2.pre,h2.mem,hc.extR hone h2,h3.toO⟩
def dH (W:List (Nat×Bool)):List (Int×Bool):=W.map fun p=>((p.1:Int),p.2)
theorem ua {v:Nat}{W:List (Nat×Bool)}(h:v∉W.map (·.1)):lkZ (v:Int) (dH W)=none:=by
 rw[fV]
 intro h2
 simp only[dH,List.map_map,A_,Function.comp]at h2
 obtain⟨p,hp,e⟩:=h2
 have e2:p.1=v:=by omega
 exact h (e2 ▸ List.mem_map_of_mem hp)
theorem x5 {v:Nat}{b:Bool}{W:List (Nat×Bool)}(h:v∉W.map (·.1)):ptZ (v:Int) b (dH W)=dH (W++[(v,b)]):=by
 rw[jI (ua h)]
 simp[dH]
theorem i8 {v:Nat}{b:Bool}:∀{W:List (Nat×Bool)},(W.map (·.1)).Nodup->(v,b)∈W->lkZ (v:Int) (dH W)=some b
 |[],_,h=>by cases h
 |p::W,hn,h=>by
  rw[List.map_cons,List.nodup_cons]at hn
  have ih:=i8 (v:=v) (b:=b) hn.2
  simp only[dH,List.map_cons,lkZ]at ih ⊢
  rcases AT.1 h with rfl|h
  ·rw[if_pos rfl]
  ·have hne:v≠p.1:=fun e=>hn.1 (e ▸ List.mem_map_of_mem h)
   rw[if_neg (by omega),ih h]
theorem kN {n:Nat}:∀{i:Nat} {vs:TW},(iS n i vs).map (·.1)=vs
 |_,[]=>rfl
 |i,v::vs=>by simp only[iS,List.map_cons,kN]
theorem rT {n i:Nat}{vs:TW}:(iS n i vs).length=vs.length:=by
 have:=congrArg List.length (kN (n:=n) (i:=i) (vs:=vs))
 simpa using this
theorem vZ {n v:Nat}:∀{i j:Nat} {vs:TW},vs[j]?=some v->(iS n i vs)[j]?=some (v,n.testBit (i+j))
 |i,j,[],h=>by simp at h
 |i,0,w::vs,h=>by simp at h;subst h;rfl
 |i,j+1,w::vs,h=>by
  simp only[iS,List.getElem?_cons_succ]at h ⊢
  rw[vZ h,show i+1+j=i+(j+1) by omega]
def tupQ (at_:TU)(Q:List (Nat×Nat)):List (Nat×Bool):=Q.flatMap fun p=>iS p.2 0 (at_.getD p.1 [])
def ik (at_:TU)(Q:List (Nat×Nat))(i:Nat):Nat:=(tupQ at_ (Q.take i)).length
theorem uj {at_:TU}{Q:List (Nat×Nat)}{i k n:Nat}(h:Q[i]?=some (k,n)):tupQ at_ Q=tupQ at_ (Q.take i)++(iS n 0 (at_.getD k [])++tupQ at_ (Q.drop (i+1))):=by
 have h1:=(x_.1 h)
 obtain⟨hi,e⟩:=h1
 conv=>lhs;rw[<- List.take_append_drop i Q,c_ hi,e]
 simp only[tupQ,List.flatMap_append,List.flatMap_cons]
theorem yr {at_:TU}{Q:List (Nat×Nat)}{i k n:Nat}(h:Q[i]?=some (k,n)):ik at_ Q (i+1)=ik at_ Q i+(at_.getD k []).length:=by
 unfold ik
 rw[List.take_add_one,h]
 simp only[tupQ,Option.toList_some,List.flatMap_append,List.flatMap_cons,List.flatMap_nil,List.append_nil,p_,rT]
theorem Ey {at_:TU}{Q:List (Nat×Nat)}{i j k n v:Nat}(h:Q[i]?=some (k,n))(hj:(at_.getD k [])[j]?=some v):(tupQ at_ Q)[ik at_ Q i+j]?=some (v,n.testBit j):=by
 have hl:=(x_.1 hj).1
 rw[uj h,ik,h_ (by omega),Nat.add_sub_cancel_left,g_ (by rw[rT];exact hl),vZ hj,Nat.zero_add]
theorem AI {at_:TU}{Q:List (Nat×Nat)}:ik at_ Q Q.length=(tupQ at_ Q).length:=by rw[ik,b_]
theorem pO {at_:TU}:∀{ks vals:TW},vals.length=ks.length->(tupQ at_ (ks.zip vals)).map (·.1)=aj at_ ks
 |[],_,_=>rfl
 |k::ks,[],h=>by simp at h
 |k::ks,v::vals,h=>by
  have ih:=pO (at_:=at_) (ks:=ks) (vals:=vals) (by simpa using h)
  simp only[tupQ,List.zip_cons_cons,List.flatMap_cons,List.map_append,kN,aj]at ih ⊢
  rw[ih]
def gZ (at_:TU)(ks vals:TW)(x:Tg):Bool:=(ks.zip vals).all fun p=>decide (bX (at_.getD p.1 []) x=p.2)
theorem wD {at_:TU}{x:Tg}:∀{Q:List (Nat×Nat)},(∀p,p∈Q->p.2<2 ^ (at_.getD p.1 []).length)->dy (tupQ at_ Q) x=Q.all fun p=>decide (bX (at_.getD p.1 []) x=p.2)
 |[],_=>rfl
 |p::Q,h=>by
  have ih:=wD (at_:=at_) (x:=x) (Q:=Q) fun q hq=>h q (List.mem_cons_of_mem _ hq)
  have h1:=tF (n:=p.2) (x:=x) (at_.getD p.1 []) 0 (by rw[Nat.pow_zero,Nat.div_one];exact h p (List.mem_cons_self ..))
  rw[Nat.pow_zero,Nat.div_one]at h1
  rw[List.all_cons,<- ih,<- h1,<- Bw]
  rfl
theorem zB (at_:TU){ks vals:TW}:DepF (aj at_ ks) (gZ at_ ks vals):=fun x y e=>by
 unfold gZ
 rw[Bool.eq_iff_iff]
 simp only[List.all_eq_true]
 have key:∀p,p∈ks.zip vals->bX (at_.getD p.1 []) x=bX (at_.getD p.1 []) y:=fun p hp=>cO fun v hv=>e v (List.mem_flatMap.2 ⟨p.1,(List.of_mem_zip (a:=p.1) (b:=p.2) hp).1,hv⟩)
 exact⟨fun h p hp=>by rw[<- key p hp];exact h p hp,fun h p hp=>by rw[key p hp];exact h p hp⟩
theorem Nn (V:TW)(hn:V.Nodup):∃SL:TW,cR (V.map fun(k:Nat)=>(k:Int))=SL.map (fun(k:Nat)=>(k:Int))/\SL.Perm V/\SL.Pairwise (·<·):=by
 have hp:=nJ (V.map fun(k:Nat)=>(k:Int))
 have hw:=zS (V.map fun(k:Nat)=>(k:Int))
 generalize cR (V.map fun(k:Nat)=>(k:Int))=Z at *
 have hz:(Z.map Int.toNat).map (fun(k:Nat)=>(k:Int))=Z:=by
  rw[List.map_map]
  conv=>rhs;rw[<- List.map_id Z]
  apply List.map_congr_left
  intro z hz
  obtain⟨k,_,rfl⟩:=A_.1 (hp.mem_iff.1 hz)
  rfl
 have hq:(Z.map Int.toNat).Perm V:=by
  have h1:=hp.map Int.toNat
  rw[List.map_map]at h1
  have e:V.map (Int.toNat ∘ fun(k:Nat)=>(k:Int))=V:=by
   conv=>rhs;rw[<- List.map_id V]
   apply List.map_congr_left
   intro k _
   rfl
  rwa [e]at h1
 refine⟨Z.map Int.toNat,hz.symm,hq,?_⟩
 have hnd:(Z.map Int.toNat).Nodup:=hq.nodup_iff.2 hn
 rw[<- hz,List.pairwise_map]at hw
 refine(hw.and hnd).imp fun {a b} h=>?_
 have:=h.1
 have:=h.2
 omega
def Bt (SL:TW)(P:List (Nat×Bool)):List (Nat×Bool):=SL.map fun v=>(v,(lkZ (v:Int) (dH P)).getD false)
theorem E3 {SL:TW}{P:List (Nat×Bool)}(hP:(P.map (·.1)).Nodup)(hS:SL.Perm (P.map (·.1)))(x:Tg):dy (Bt SL P) x=dy P x:=by
 refine Bu (fun p=>?_) x
 simp only[Bt,A_]
 constructor
 ·rintro⟨v,hv,rfl⟩
  obtain⟨p,hp,rfl⟩:=A_.1 (hS.mem_iff.1 hv)
  rw[i8 (b:=p.2) hP hp]
  exact hp
 ·intro hp
  exact⟨p.1,hS.mem_iff.2 (List.mem_map_of_mem hp),by rw[i8 (b:=p.2) hP hp];rfl⟩
structure VarT (s:St) (bm:Nat) (u:St) (x:VV) (W:List (Nat×Bool)):Prop where
 m:u bm=.map (mpZ bP (dH W))
 bf:s bm=.free
 r:(W=[]/\x=.raw (.slice none 0 0))\/(W≠[]/\∃g,g≠bm/\s g=.free/\u g=.row 3 1 (aM (W.map fun p=>(p.1:Int)))/\x=.mrw g W.length)
 fr:∀z,s z≠.free->u z=s z
theorem VarT.put0 {s:St}{bm:Nat}{u:St}{x:VV}{v:Nat}{b:Bool}{bM:Nat}{M:Cell}(h:VarT s bm u x [])(hM:(u.set bm M) bM=.free)(he:M=.map (mpZ bP (dH [(v,b)]))):VarT s bm ((u.set bm M).set bM (.row 3 1 [.int .i64 (v:Int)])) (.mrw bM 1) [(v,b)]:=by
 have hne:bM≠bm:=fun e=>by rw[e,q_,he]at hM;cases hM
 rw[j_ _ _ hne]at hM
 have hs:s bM=.free:=Classical.byContradiction fun h2=>h2 ((h.fr bM h2).symm.trans hM)
 refine⟨by rw[j_ _ _ (Ne.symm hne),q_,he],h.bf,.inr ⟨by simp,bM,hne,hs,by rw[q_];rfl,rfl⟩,fun z hz=>?_⟩
 have n1:=(nef hs hz).1
 have n2:=(nef h.bf hz).1
 rw[j_ _ _ n1,j_ _ _ n2,h.fr z hz]
theorem VarT.put {s:St}{bm g n:Nat}{u:St}{x:VV}{W:List (Nat×Bool)}{v:Nat}{b:Bool}{bM:Nat}{M:Cell}{xs:Tb}(h:VarT s bm u x W)(hg:g≠bm)(hgs:s g=.free)(hM:((u.set bm M).set g .free) bM=.free)(he:M=.map (mpZ bP (dH (W++[(v,b)]))))(hx:xs=aM ((W++[(v,b)]).map fun p=>(p.1:Int)))(hn:n=(W++[(v,b)]).length) :
  VarT s bm (((u.set bm M).set g .free).set bM (.row 3 1 xs)) (.mrw bM n) (W++[(v,b)]):=by
 have hne:bM≠bm:=fun e=>by rw[e,j_ _ _ (Ne.symm hg),q_,he]at hM;cases hM
 have hs:s bM=.free:=by
  by_cases e:bM=g
  ·rw[e];exact hgs
  ·rw[j_ _ _ e,j_ _ _ hne]at hM
   exact Classical.byContradiction fun h2=>h2 ((h.fr bM h2).symm.trans hM)
 refine⟨by rw[j_ _ _ (Ne.symm hne),j_ _ _ (Ne.symm hg),q_,he],h.bf,.inr ⟨by simp,bM,hne,hs,by rw[q_,hx],by rw[hn]⟩,fun z hz=>?_⟩
 rw[j_ _ _ (nef hs hz).1,j_ _ _ (nef hgs hz).1,j_ _ _ (nef h.bf hz).1,h.fr z hz]
structure VarS (s:St) (bm:Nat) (u:St) (x:VV) (W:List (Nat×Bool)) (Z:TZ):Prop where
 m:u bm=.map (mpZ bP (dH W))
 r:(x=.raw (.slice none 0 0)/\aM Z=[])\/∃g,g≠bm/\s g=.free/\u g=.row 3 1 (aM Z)/\x=.mrw g (aM Z).length
 fr:∀z,s z≠.free->u z=s z
theorem VarT.sort {s:St}{bm:Nat}{u:St}{x:VV}{W:List (Nat×Bool)}(h:VarT s bm u x W)(hl:W.length<=100000) :
  SCalls Tryz.prog 82 [x] u fun w u'=>∃a:St,w=.ret (.tup [])/\u'=a/\VarS s bm a x W (cR ((W.map (·.1)).map fun(k:Nat)=>(k:Int))):=by
 rcases h.r with ⟨hW,hx⟩|⟨hW,g,g1,g2,g3,hx⟩
 ·subst hW hx
  refine SCalls.mono (h:=tV u) ?_
  rintro w u' ⟨rfl,rfl⟩
  exact⟨_,rfl,rfl,h.m,.inl ⟨rfl,by simp[cR,aM]⟩,h.fr⟩
 ·subst hx
  have e:(W.map fun p=>(p.1:Int))=(W.map (·.1)).map fun(k:Nat)=>(k:Int):=by simp
  rw[e]at g3
  have hlen:((W.map (·.1)).map fun(k:Nat)=>(k:Int)).length=W.length:=by simp
  have w:=xX u g 3 ((W.map (·.1)).map fun(k:Nat)=>(k:Int)) (by rw[hlen];omega) g3
  rw[hlen]at w
  refine SCalls.mono (h:=w) ?_
  rintro w u' ⟨rfl,rfl⟩
  refine⟨_,rfl,rfl,?_,.inr ⟨g,g1,g2,q_ _ _ _,?_⟩,fun z hz=>?_⟩
  ·rw[j_ _ _ (Ne.symm g1)];exact h.m
  ·rw[show (aM (cR ((W.map (·.1)).map fun(k:Nat)=>(k:Int)))).length=W.length by simp only[aM,z_,eJ]]
  ·rw[j_ _ _ (nef g2 hz).1];exact h.fr z hz
theorem Fx {P:Program}{N:Nat}{D:List Deferred}{c:Code}{k:List Itm}{Q:Pst}{env:Env}{s u:St}{bm:Nat}{x:VV}{W:List (Nat×Bool)}{Z:TZ}(t:Nat)(h:VarS s bm u x W Z)(ht:env t=x)
  (hk:∀u',u' bm=.map (mpZ bP (dH W))->(∀z,s z≠.free->u' z=s z)->Kp P N D (.code c::k) Q .norm (upd env t (.lst (aI Z) .no)) u'):Kp P N D (.code c::k) Q .norm env u:=by
 rcases h.r with ⟨hx,hZ⟩|⟨g,g1,g2,g3,hx⟩
 ·have e:aI Z=[]:=by
   have:Z=[]:=by cases Z with|nil=>rfl|cons a l=>simp[aM]at hZ
   rw[this];rfl
  have hk2:=hk u h.m h.fr
  rw[e]at hk2
  exact lC t (ht.trans hx) Wk.rawnil hk2
 ·refine kK t g _ g3 (ht.trans hx) rfl ?_
  rw[Be]
  refine hk _ ?_ fun z hz=>?_
  ·rw[j_ _ _ (Ne.symm g1)];exact h.m
  ·rw[j_ _ _ (nef g2 hz).1];exact h.fr z hz
attribute [-go_sem] bJ cX bH bG
structure TupI (s:St) (K:OB) (q c n B:Nat) (ns:Td) (ds:TN) (at_:TU) (CL:List (Nat×Bool)) (N i:Nat) (s':St) (K':OB) (ns':Td):Prop where
 m:CMem s' K' q c n B ns' ds at_
 kp:OKeep s s' K K'
 pre:∃l,ns'=ns++l
 mem:treeT n (dy (CL.drop i))∈ns'
 cnt:CntN ns' (N+(CL.length - i))
theorem TupI.next {s:St}{K:OB}{q c n B:Nat}{ns:Td}{ds:TN}{at_:TU}{CL:List (Nat×Bool)}{N i:Nat}{s':St}{K':OB}{ns':Td}{a:gJ}{v:Nat}{b:Bool}
  (I:TupI s K q c n B ns ds at_ CL N (i+1) s' K' ns') (hv:CL[i]?=some (v,b)) (h1:OpF s' K' n B ns' (N+(CL.length - (i+1))+1) (dy (CL.drop i)) a):TupI s K q c n B ns ds at_ CL N i a.1 a.2.1 a.2.2:=by
 have hl:=(x_.1 hv).1
 refine⟨I.m.keep h1.m h1.k,I.kp.trans h1.k,eK I.pre h1.pre,h1.mem,h1.cnt.mono (by omega)⟩
theorem TupI.mk1 {s:St}{K:OB}{q c n B:Nat}{ns:Td}{ds:TN}{at_:TU}{CL:List (Nat×Bool)}{N i:Nat}{s':St}{K':OB}{ns':Td}{v:Nat}{b:Bool}
  (I:TupI s K q c n B ns ds at_ CL N (i+1) s' K' ns') (hv:CL[i]?=some (v,b)) (hp:(CL.map (·.1)).Pairwise (·<·)) (hlt:∀p,p∈CL->p.1<n) (hB:N+CL.length<=B) :
  OpFC 79 [.ptr K'.s.p 0,.int .i64 v,.int .i64 (if b=true then 0 else(ixF n ns' (dy (CL.drop (i+1))):Nat)),.int .i64 (if b=true then(ixF n ns' (dy (CL.drop (i+1))):Nat)else 0)] s' K' n B ns' (N+(CL.length - (i+1))+1) (dy (CL.drop i)):=by
 obtain⟨hl,e⟩:=x_.1 hv
 have hd:CL.drop i=(v,b)::CL.drop (i+1):=by rw[c_ hl,e]
 have c0:=I.m.om.c0.1
 have hS:∀w,w∈(CL.drop (i+1)).map (·.1)->v<w/\w<n:=fun w hw=>by
  have h1:=hp.sublist ((List.drop_sublist i CL).map (·.1))
  rw[hd,List.map_cons,List.pairwise_cons]at h1
  obtain⟨p,hp2,rfl⟩:=A_.1 hw
  exact⟨h1.1 _ hw,hlt p (List.mem_of_mem_drop hp2)⟩
 have hvn:=hlt _ (y_ hv)
 have hdep:DepF ((CL.drop (i+1)).map (·.1)) (dy (CL.drop (i+1))):=Bv fun p hp2=>List.mem_map_of_mem hp2
 have hst:=yP (v:=v) (b:=b) (l:=CL.drop (i+1))
 rw[<- hd]at hst
 cases b with
 |true=>
  have w:=Cc I.m.om (f:=fun _=>false) (g:=dy (CL.drop (i+1))) (v:=v) (S:=(CL.drop (i+1)).map (·.1)) (fun _ _ _=>rfl) hdep hS hvn c0.1 I.mem I.cnt (by omega)
  simp only[if_true]at hst
  rw[hst,c0.2]at w
  exact w
 |false=>
  have w:=Cc I.m.om (f:=dy (CL.drop (i+1))) (g:=fun _=>false) (v:=v) (S:=(CL.drop (i+1)).map (·.1)) hdep (fun _ _ _=>rfl) hS hvn I.mem c0.1 I.cnt (by omega)
  simp only[Bool.false_eq_true,if_false]at hst
  rw[hst,c0.2]at w
  exact w
theorem tY {s:St}{KK:OB}{q c n B N:Nat}{ns:Td}{ds:TN}{at_:TU}(hC:CMem s KK q c n B ns ds at_)(hD:DOk n ds at_)(ks vals:TW)(ow ow2:Own)(hks:∀k,k∈ks->k<ds.length)(hl:ks.length<=32)(hnd:ks.Nodup)(hvl:vals.length=ks.length)
  (hvs:∀(i k v:Nat) (x:TT×Nat),ks[i]?=some k->vals[i]?=some v->ds[k]?=some x->v<x.2) (hc:CntN ns N) (hB:N+(aj at_ ks).length<=B) :
  OpFC 52 [.ptr c 0,.lst (ak ks) ow,.lst (ak vals) ow2] s KK n B ns (N+(aj at_ ks).length) (gZ at_ ks vals):=by
 have wv:=gK hC hD ks ow hks hl
 rw[if_pos hnd]at wv
 have hVN:=cr hD hnd hks
 have hVL:=aJ hD hks
 have hln:(ak ks).length=ks.length:=natsL_len
 have hln2:(ak vals).length=ks.length:=by rw[natsL_len,hvl]
 obtain⟨P,hP⟩:∃P,P=tupQ at_ (ks.zip vals):=⟨_,rfl⟩
 have hPk:P.map (·.1)=aj at_ ks:=by rw[hP];exact pO hvl
 have hPl:P.length=(aj at_ ks).length:=by rw[<- hPk,z_]
 have hzl:(ks.zip vals).length=ks.length:=by rw[List.length_zip,hvl,Nat.min_self]
 have hQat:∀i k v,ks[i]?=some k->vals[i]?=some v->(ks.zip vals)[i]?=some (k,v):=fun i k v h1 h2=>by
  rw[List.getElem?_zip_eq_some]
  exact⟨h1,h2⟩
 have hfit:∀i k v,ks[i]?=some k->vals[i]?=some v->v<2 ^ (at_.getD k []).length/\(at_.getD k []).length<=30:=fun i k v h1 h2=>by
  obtain⟨nm,sz,l,g1,g2,g3,g4,g5,g6,g7⟩:=hD.get (hks k (y_ h1))
  have e:at_.getD k []=l:=by rw[List.getD_eq_getElem?_getD,g2];rfl
  have:=hvs i k v _ h1 h2 g1
  have h4:=hD.w k _ _ g1 g2
  rw[e]
  exact⟨Nat.lt_of_lt_of_le this h4.2.1,g6⟩
 have hev:dy P=gZ at_ ks vals:=by
  funext x
  rw[hP]
  refine wD fun p hp=>?_
  obtain⟨i,hi,e⟩:=List.mem_iff_getElem.1 hp
  have h1:(ks.zip vals)[i]?=some p:=by rw[m_ hi,e]
  rw[List.getElem?_zip_eq_some]at h1
  exact(hfit i _ _ h1.1 h1.2).1
 have hlv30:(aj at_ ks).length<=960:=by
  have:∀l:TW,(∀k,k∈l->k<ds.length)->(aj at_ l).length<=30 * l.length:=by
   intro l
   induction l with
   |nil=>intro _;simp[aj]
   |cons k l ih=>
    intro h
    have h1:=ih fun k hk=>h k (List.mem_cons_of_mem _ hk)
    have h2:=(hD.getD (h k (List.mem_cons_self ..))).2.1
    have e:aj at_ (k::l)=at_.getD k []++aj at_ l:=by simp[aj]
    rw[e,p_,List.length_cons]
    omega
  have:=this ks hks
  omega
 have hrow:∀i,i<ks.length->∃(k v:Nat) (nm:TT) (sz:Nat),ks[i]?=some k/\(ak ks)[i]?=some [.int .i64 (k:Int)]/\(ak vals)[i]?=some [.int .i64 (v:Int)]/\(dx ds)[k]?=some [.str nm,.int .i64 ((sz:Nat):Int)]/\v<sz/\(atC at_)[k]?=some [.lst (ak (at_.getD k [])) .no]/\v<2 ^ (at_.getD k []).length/\(at_.getD k []).length<=30/\(ks.zip vals)[i]?=some (k,v):=fun i hi=>by
  have h1:=m_ hi
  have h2:=m_ (l:=vals) (i:=i) (by omega)
  obtain⟨nm,sz,l,g1,g2,g3,g4,g5,g6,g7⟩:=hD.get (hks _ (y_ h1))
  have e:at_.getD ks[i] []=l:=by rw[List.getD_eq_getElem?_getD,g2];rfl
  obtain⟨f1,f2⟩:=hfit i _ _ h1 h2
  exact⟨_,_,nm,sz,h1,aH h1,aH h2,oO g1,hvs i _ _ _ h1 h2 g1,by rw[e];exact pc g2,f1,f2,hQat i _ _ h1 h2⟩
 obtain⟨SL,hr1,hr2,hr3⟩:=Nn _ hVN
 have hco:=hC.co
 have hcf:s c≠.free:=by rw[hco];simp
 have HC:=o_ hC
 have HROW:=o_ hrow
 have HPK:=o_ hPk
 have HP:=o_ hP
 have HEV:=o_ hev
 have HVN:=o_ hVN
 have HVL:=o_ hVL
 have HR:=o_ (And.intro hr1 (And.intro hr2 hr3))
 have HCN:=o_ (And.intro hc hB)
 have HZL:=o_ hzl
 have HPL:=o_ hPl
 clear hC hD hks hnd hvl hvs hc hB hVN hVL hP hPk hPl hzl hQat hfit hev hrow hr1 hr2 hr3
 obtain⟨D,hDD⟩:∃D,D=dx ds:=⟨_,rfl⟩
 obtain⟨A,hAA⟩:∃A,A=atC at_:=⟨_,rfl⟩
 rw[<- hAA,<- hDD]at hco
 have HAA:=o_ hAA
 have HDD:=o_ hDD
 clear hAA hDD
 obtain⟨VK,hVK⟩:∃V,V=ak ks:=⟨_,rfl⟩
 obtain⟨VV2,hVV2⟩:∃V,V=ak vals:=⟨_,rfl⟩
 obtain⟨VW,hVW⟩:∃V,V=ak (aj at_ ks):=⟨_,rfl⟩
 rw[<- hVK]at wv hln ⊢
 rw[<- hVV2]at hln2 ⊢
 rw[<- hVW]at wv
 have HVK:=o_ hVK
 have HVV:=o_ hVV2
 unfold OpFC
 clear hVK hVV2 hVW
 refine am Tryz.func52 rfl Tryz.ntmps52 rfl fun Q hQ hQe=>?_
 (repeat'(first|(with_reducible refine aR 6 ?_)|refine Ctl ?_|((with_reducible refine k_ hK ?_);clear hK hE K E)|((with_reducible refine bZ (fun h=>?_) (fun h=>?_))<;>(try(exfalso;assumption)))|((first|(with_reducible first|refine ab fun K E hK hE=>?_|refine ae qH (wv) ?_)|((with_reducible refine au (fun b hb=>?_))))<;>(try simp(disch:=omega) only[go_sem,seval,hln,hln2, *]))))
 unfold bC
 obtain⟨bm,hbm⟩:∃z,z=b:=⟨_,rfl⟩
 subst hbm
 refine iR 11 (ac) ?_
 have V0:VarT s bm (s.set bm (.map [])) (.raw (.slice none 0 0)) []:=⟨q_ _ _ _,hb,.inl ⟨rfl,rfl⟩,fun z hz=>j_ _ _ (nef hb hz).1⟩
 have HV0:=o_ V0
 have HB:=o_ hb
 clear V0 wv
 (repeat'(first|refine Ctl ?_|((with_reducible refine k_ hK ?_);clear hK hE K E)|(((with_reducible refine ab fun K E hK hE=>?_))<;>(try simp(disch:=omega) only[go_sem,seval,hln, *]))))
 refine bV (fun m env s'=>∃(i:Nat) (x:VV),i<=ks.length/\m+i=ks.length/\Hid (VarT s bm s' x (P.take (ik at_ (ks.zip vals) i)))/\env 0=.ptr c 0/\env 2=.lst VV2 ow2/\env 10=.mp bm/\env 11=x/\env 40=.lst VK ow/\env 41=.int .i64 ks.length/\env 42=.int .i64 i) ks.length ?_ ?_
 ·exact⟨_,Fg.refl _,0,_,by omega,by omega,HV0,ac,ac,ac,ac,ac,ac,ac⟩
 clear HV0
 rintro m env u ⟨i,x,hi,hmi,HV,e0,e2,e10,e11,e40,e41,e42⟩
 by_cases h2:i<ks.length
 ·obtain⟨k,v,nm,sz,q1,q2,q3,q4,q5,q6,q7,q8,q9⟩:=HROW.out i h2
  rw[<- HVK.out]at q2
  rw[<- HVV.out]at q3
  rw[<- HDD.out]at q4
  rw[<- HAA.out]at q6
  have huco:u c=.obj 132 [.ptr q 0,.lst D .no,.lst A .no]:=(HV.out.fr c hcf).trans hco
  have hwl:(ak (at_.getD k [])).length=(at_.getD k []).length:=natsL_len
  have wb:=fun s=>Cz s v (at_.getD k []).length (by omega) q7
  have hbl:(gP v (at_.getD k []).length).length=(at_.getD k []).length:=qI
  have hnx:=yr (at_:=at_) q9
  have c1:¬ (v:Int)<0:=by omega
  have c2:¬ ((sz:Nat):Int)<=(v:Int):=by omega
  have hinn:∀j,j<(at_.getD k []).length->∃vj:Nat,(ak (at_.getD k []))[j]?=some [.int .i64 (vj:Int)]/\(gP v (at_.getD k []).length)[j]?=some [.bool (v.testBit j)]/\P[ik at_ (ks.zip vals) i+j]?=some (vj,v.testBit j):=fun j hj=>by
   have h1:=m_ hj
   exact⟨_,aH h1,tM hj,by rw[HP.out];exact Ey q9 h1⟩
  have HNX:=o_ hnx
  have HIN:=o_ hinn
  clear hnx hinn q1 q5 q7 q9
  generalize hVA:ak (at_.getD k [])=VA at *
  generalize hBL:gP v (at_.getD k []).length=BL at *
  generalize hwv:(at_.getD k []).length=w at *
  clear hVA hBL hwv
  have HV0:Hid (VarT s bm u x (P.take (ik at_ (ks.zip vals) i+0))):=HV
  clear HV
  (repeat'(first|refine Ctl ?_|(with_reducible first|(refine k_ hK ?_;clear hK hE K E)|(refine k_ hKh ?_;clear hKh Kh)|(refine k_ hKb (aC ?_);clear hKb Kb)|refine ax 9 [] [0,1,2,3,4,5,6,7,8,9,10,11,12,13,14,15,16,17,18,19] hQe fun K E hK hE=>?_|refine ax 11 [([0,1,2,3,4,5,6,7,8,9,10,11],12,[[]])] [13,14,15,16,17] hQe fun K E hK hE=>?_)|((with_reducible refine bZ (fun h=>?_) (fun h=>?_))<;>(try(exfalso;assumption)))|(((with_reducible first|refine ab fun K E hK hE=>?_|refine ae GI (wb _) ?_|refine ay fun Kh hKh=>?_|refine aG fun Kh hKh=>?_|refine aB fun Kb hKb=>?_))<;>(try simp(disch:=omega) only[go_sem,seval,q2,q3,q4,q6,c1,c2,hwl,hbl, *]))))
  refine bV (fun m2 env s'=>∃(j:Nat) (x:VV),j<=w/\m2+j=w/\Hid (VarT s bm s' x (P.take (ik at_ (ks.zip vals) i+j)))/\env 0=.ptr c 0/\env 2=.lst VV2 ow2/\env 10=.mp bm/\env 11=x/\env 13=.int .i64 k/\env 40=.lst VK ow/\env 41=.int .i64 ks.length/\env 42=.int .i64 i/\env 83=.lst BL .no/\env 84=.int .i64 w/\env 85=.int .i64 j) w ?_ ?_
  ·exact⟨_,Fg.refl _,0,_,by omega,by omega,HV0,ac,ac,ac,ac,ac,ac,ac,ac,ac,ac,ac⟩
  clear HV0 e0 e2 e10 e11 e40 e41 e42 huco x
  rintro m2 env u ⟨j,x,hj,hmj,HV,e0,e2,e10,e11,e13,e40,e41,e42,e83,e84,e85⟩
  have huco:u c=.obj 132 [.ptr q 0,.lst D .no,.lst A .no]:=(HV.out.fr c hcf).trans hco
  have hum:=HV.out.m
  have hcb:c≠bm:=fun e=>hcf (e ▸ HB.out)
  by_cases h3:j<w
  ·obtain⟨vj,p1,p2,p3⟩:=HIN.out j h3
   generalize v.testBit j=bj at *
   have htk:P.take (ik at_ (ks.zip vals) i+(j+1))=P.take (ik at_ (ks.zip vals) i+j)++[(vj,bj)]:=by
    rw[<- Nat.add_assoc,List.take_add_one,p3];rfl
   have hni:vj∉(P.take (ik at_ (ks.zip vals) i+j)).map (·.1):=fun hm=>by
    have h5:List.Sublist ((P.take (ik at_ (ks.zip vals) i+(j+1))).map (·.1)) (P.map (·.1)):=(List.take_sublist _ _).map _
    rw[HPK.out]at h5
    have h6:=HVN.out.sublist h5
    rw[htk,List.map_append,List.nodup_append]at h6
    exact h6.2.2 _ hm _ (by simp) rfl
   have hpt:=x5 (b:=bj) hni
   have hWl:(P.take (ik at_ (ks.zip vals) i+j)).length<=1000:=by
    rw[r_,HPL.out];omega
   have HTK:=o_ htk
   clear htk hni p3
   generalize P.take (ik at_ (ks.zip vals) i+j)=W at *
   have hne2:bm≠c:=Ne.symm hcb
   rcases HV.out.r with ⟨hW,hx⟩|⟨hW,g,g1,g2,g3,hx⟩
   ·subst hW hx
    simp only[List.nil_append]at hpt HTK
    have HH:=o_ (And.intro HV.out hpt)
    generalize hZ0:dH []=Z0 at *
    generalize hZ1:dH [(vj,bj)]=Z1 at *
    have HZ:=o_ hZ1
    clear hZ1 HV hZ0
    (repeat'(first|refine Ctl ?_|((with_reducible refine k_ hK ?_);clear hK hE K E)|((with_reducible refine bZ (fun h=>?_) (fun h=>?_))<;>(try(exfalso;assumption)))|((first|(with_reducible refine ab fun K E hK hE=>?_)|((with_reducible refine fG (fun bM hM=>?_))))<;>(try simp(disch:=omega) only[go_sem,seval,p1,p2,q6,hpt, *]))))
    all_goals exact⟨_,Fg.refl _,m2 - 1,by omega,j+1,_,by omega,by omega,o_ (by rw[HTK.out];exact HH.out.1.put0 hM (by rw[HZ.out])),ac,ac,ac,ac,ac,ac,ac,ac,ac,ac,ac⟩
   ·subst hx
    have hxl:(aM (W.map fun p=>(p.1:Int))).length=W.length:=by simp[aM]
    have hxa:aM ((W++[(vj,bj)]).map fun p=>(p.1:Int))=aM (W.map fun p=>(p.1:Int))++[.int .i64 (vj:Int)]:=by simp[aM]
    have hwa:(W++[(vj,bj)]).length=W.length+1:=by simp
    have hgc:g≠c:=fun e=>hcf (e ▸ g2)
    have hgc2:c≠g:=Ne.symm hgc
    have hgb2:bm≠g:=Ne.symm g1
    have HH:=o_ (And.intro HV.out (And.intro hpt (And.intro hxa (And.intro hwa g2))))
    generalize hZ0:dH W=Z0 at *
    generalize hZ1:dH (W++[(vj,bj)])=Z1 at *
    have HZ:=o_ hZ1
    clear hZ1 HV hZ0 hxa hwa hW
    generalize hXS:aM (W.map fun p=>(p.1:Int))=XS at *
    generalize hwl3:W.length=wl at *
    have HXS:=o_ hXS
    have HWL:=o_ hwl3
    clear hXS hwl3
    (repeat'(first|refine Ctl ?_|((with_reducible refine k_ hK ?_);clear hK hE K E)|((with_reducible refine bZ (fun h=>?_) (fun h=>?_))<;>(try(exfalso;assumption)))|((first|(with_reducible refine ab fun K E hK hE=>?_)|((with_reducible refine cJ (fun bM hM=>?_))))<;>(try simp(disch:=omega) only[go_sem,seval,p1,p2,q6,hpt,Nat.mul_one,hxl, *]))))
    all_goals exact⟨_,Fg.refl _,m2 - 1,by omega,j+1,_,by omega,by omega,o_ (by rw[HTK.out];exact HH.out.1.put g1 HH.out.2.2.2.2 hM (by rw[HZ.out]) HH.out.2.2.1.symm HH.out.2.2.2.1.symm),ac,ac,ac,ac,ac,ac,ac,ac,ac,ac,ac⟩
  ·have hjw:j=w:=by omega
   subst hjw
   have hv:=HV.out
   rw[<- HNX.out]at hv
   have HV2:=o_ hv
   clear HV hv hum
   (repeat'(first|refine Ctl ?_|((with_reducible refine k_ hK ?_);clear hK hE K E)|((with_reducible refine bZ (fun h=>?_) (fun h=>?_))<;>(try(exfalso;assumption)))|(((with_reducible refine ab fun K E hK hE=>?_))<;>(try simp(disch:=omega) only[go_sem,seval,hbl, *]))))
   all_goals exact⟨_,Fg.refl _,m - 1,by omega,i+1,_,by omega,by omega,HV2,ac,ac,ac,ac,ac,ac,ac⟩
 ·have hie:i=ks.length:=by omega
  have hv:=HV.out
  rw[hie,<- HZL.out,AI,<- HP.out,b_]at hv
  have ws:=hv.sort (by rw[HPL.out];omega)
  rw[HPK.out,HR.out.1]at ws
  clear HV hv
  (repeat'(first|refine Ctl ?_|((with_reducible refine k_ hK ?_);clear hK hE K E)|((with_reducible refine bZ (fun h=>?_) (fun h=>?_))<;>(try(exfalso;omega)))|(((with_reducible refine ab fun K E hK hE=>?_))<;>(try simp(disch:=omega) only[go_sem,seval,hln, *]))))
  refine ao BB ws (fun a h=>?_)
  have HS:=o_ h
  clear h ws
  simp only[go_sem,seval]
  (repeat'(first|(with_reducible refine aR 20 ?_)|refine Ctl ?_|((with_reducible refine k_ hK ?_);clear hK hE K E)))
  unfold bC
  refine Fx 11 HS.out (ac) fun uF hum hfr=>?_
  clear HS
  have hSN:aI (SL.map fun(k:Nat)=>(k:Int))=ak SL:=(cA SL).symm
  rw[hSN]
  have hSl:(ak SL).length=SL.length:=natsL_len
  have hSL9:SL.length<=960:=by rw[HR.out.2.1.length_eq];exact hlv30
  have hC:=HC.out
  have hCF:CMem uF KK q c n B ns ds at_:=by
   obtain⟨n1,n2,n3,n4⟩:=hC.nq
   exact⟨hC.om.keep fun z hz=>hfr z (hC.om.live hz),(hfr _ n3).trans hC.qo,(hfr _ n4).trans hC.co⟩
  have hk0:OKeep s uF KK KK:=⟨rfl,rfl,rfl,fun z hz=>.inl hz,fun z hz _=>hfr z hz⟩
  have hbK:¬ KK.has bm:=fun h=>hC.om.live h HB.out
  obtain⟨CL,hCL⟩:∃CL,CL=Bt SL P:=⟨_,rfl⟩
  have hCLk:CL.map (·.1)=SL:=by rw[hCL,Bt,List.map_map];exact List.map_id _
  have hCLl:CL.length=SL.length:=by rw[<- hCLk,z_]
  have hPn:(P.map (·.1)).Nodup:=by rw[HPK.out];exact HVN.out
  have hev2:dy CL=gZ at_ ks vals:=by
   rw[<- HEV.out,hCL]
   funext x
   exact E3 hPn (by rw[HPK.out];exact HR.out.2.1) x
  have hat:∀i (v:Nat),SL[i]?=some v->(ak SL)[i]?=some [VV.int .i64 (v:Int)]/\CL[i]?=some (v,(lkZ (v:Int) (dH P)).getD false):=fun i v h=>⟨aH h,by rw[hCL,Bt,n_,h];rfl⟩
  have hpw:(CL.map (·.1)).Pairwise (·<·):=by rw[hCLk];exact HR.out.2.2
  have hlt:∀p,p∈CL->p.1<n:=fun p hp=>HVL.out _ (HR.out.2.1.mem_iff.1 (by rw[<- hCLk];exact List.mem_map_of_mem hp))
  have hBB:N+CL.length<=B:=by rw[hCLl,HR.out.2.1.length_eq];exact HCN.out.2
  have c0:=hC.om.c0.2
  have hI0:TupI uF KK q c n B ns ds at_ CL N SL.length uF KK ns:=⟨hCF,.refl _ _,⟨[],by simp⟩,by rw[<- hCLl,B_];exact c0.1,by rw[hCLl,Nat.sub_self];exact HCN.out.1⟩
  have h18:ixF n ns (dy (CL.drop SL.length))=1:=by rw[<- hCLl,B_];exact c0.2
  have HI0:=o_ hI0
  have HK0:=o_ hk0
  have HBK:=o_ hbK
  have HEV2:=o_ hev2
  have HAT:=o_ hat
  have HMK:=o_ (And.intro hpw (And.intro hlt hBB))
  have HLN:=o_ (hCLl.trans HR.out.2.1.length_eq)
  have HUM:=o_ hum
  clear hC hCF hk0 hbK hCL hCLk hCLl hPn hev2 hat hpw hlt hBB c0 hI0 hSN HR HROW HPK HP HEV HVN HVL HZL HPL HVK HVV HCN hlv30
  generalize ak SL=VS at *
  generalize hsl:SL.length=sl at *
  have HSL:=o_ hsl
  clear hsl
  obtain⟨WZ,hWZ⟩:∃WZ,WZ=dH P:=⟨_,rfl⟩
  rw[<- hWZ]at hum HUM HAT
  clear hWZ
  (repeat'(first|refine Ctl ?_|((with_reducible refine k_ hK ?_);clear hK hE K E)|(((with_reducible refine ab fun K E hK hE=>?_))<;>(try simp(disch:=omega) only[go_sem,seval,hSl, *]))))
  refine bV (fun m env s'=>∃(K':OB) (ns':Td),m<=sl/\Hid (TupI uF KK q c n B ns ds at_ CL N m s' K' ns')/\s' bm=.map (mpZ bP WZ)/\env 0=.ptr c 0/\env 10=.mp bm/\env 11=.lst VS .no/\env 18=.int .i64 (ixF n ns' (dy (CL.drop m)):Nat)/\env 19=.int .i64 ((m:Int) - 1)) sl ?_ ?_
  ·exact⟨_,Fg.refl _,KK,ns,by omega,HI0,hum,ac,ac,ac,by(rw[h18];((try simp(disch:=assumption) only[go_sem,seval, *])<;>rfl)),ac⟩
  clear HI0 h18 hum e0 e2 e10 e11 e40 e41 e42
  rintro m env s' ⟨K',ns',hm,HI,hsb,e0,e10,e11,e18,e19⟩
  have I:=HI.out
  have hbK':¬ K'.has bm:=fun h=>by
   rcases I.kp.nw bm h with h|h
   ·exact HBK.out h
   ·have:=HUM.out;rw[h]at this;cases this
  cases m with
  |succ i=>
   obtain⟨v,hv⟩:∃v,SL[i]?=some v:=⟨_,m_ (by rw[HSL.out];omega)⟩
   obtain⟨hx,hCLi⟩:=HAT.out i v hv
   obtain⟨d,cc,ho⟩:=I.m.om.op
   have wq:=dD s' q K'.o K'.s.p I.m.qo
   have wst:=eU s' K'.o K'.s.p d cc ho
   have hco':=I.m.co
   have wm:=I.mk1 hCLi HMK.out.1 HMK.out.2.1 HMK.out.2.2
   have e:(((i+1:Nat):Int) - 1)=(i:Int):=by omega
   rw[e]at e19
   have hnxt:=fun(a:gJ) h=>I.next (a:=a) hCLi h
   have HNXT:=o_ hnxt
   have HBK':=o_ hbK'
   unfold OpFC at wm
   have hc0:(0:Int)<=(i:Int):=by omega
   clear I HI ho hv hnxt hbK' e hCLi
   generalize ixF n ns' (dy (CL.drop (i+1)))=kz at *
   generalize hlk:(lkZ (v:Int) WZ).getD false=bv at *
   cases bv with
   |true=>
    simp only[if_true]at wm
    (repeat'(first|refine Ctl ?_|((with_reducible refine k_ hK ?_);clear hK hE K E)|((with_reducible refine bZ (fun h=>?_) (fun h=>?_))<;>(try(exfalso;assumption)))|(((with_reducible first|refine ab fun K E hK hE=>?_|refine ae dK (wq) ?_|refine ae iv (wst) ?_))<;>(try simp(disch:=omega) only[go_sem,seval,hSl,hx,hlk, *]))))
    refine ao oW wm (fun a h=>?_)
    obtain⟨u2,K2,ns2⟩:=a
    have I2:=o_ (HNXT.out _ h)
    have hbm2:u2 bm=.map (mpZ bP WZ):=(h.k.out bm (by rw[hsb];simp) HBK'.out).trans hsb
    clear h wm HNXT
    dsimp only at hbm2 I2 ⊢
    simp only[go_sem,seval]
    (repeat'(first|refine Ctl ?_|((with_reducible refine k_ hK ?_);clear hK hE K E)|((with_reducible refine bZ (fun h=>?_) (fun h=>?_))<;>(try(exfalso;assumption)))|(((with_reducible refine ab fun K E hK hE=>?_))<;>(try simp(disch:=omega) only[go_sem,seval, *]))))
    all_goals exact⟨_,Fg.refl _,i,by omega,K2,ns2,by omega,I2,hbm2,ac,ac,ac,ac,ac⟩
   |false=>
    simp only[Bool.false_eq_true,if_false]at wm
    (repeat'(first|refine Ctl ?_|((with_reducible refine k_ hK ?_);clear hK hE K E)|((with_reducible refine bZ (fun h=>?_) (fun h=>?_))<;>(try(exfalso;assumption)))|(((with_reducible first|refine ab fun K E hK hE=>?_|refine ae dK (wq) ?_|refine ae iv (wst) ?_))<;>(try simp(disch:=omega) only[go_sem,seval,hSl,hx,hlk, *]))))
    refine ao oW wm (fun a h=>?_)
    obtain⟨u2,K2,ns2⟩:=a
    have I2:=o_ (HNXT.out _ h)
    have hbm2:u2 bm=.map (mpZ bP WZ):=(h.k.out bm (by rw[hsb];simp) HBK'.out).trans hsb
    clear h wm HNXT
    dsimp only at hbm2 I2 ⊢
    simp only[go_sem,seval]
    (repeat'(first|refine Ctl ?_|((with_reducible refine k_ hK ?_);clear hK hE K E)|((with_reducible refine bZ (fun h=>?_) (fun h=>?_))<;>(try(exfalso;assumption)))|(((with_reducible refine ab fun K E hK hE=>?_))<;>(try simp(disch:=omega) only[go_sem,seval, *]))))
    all_goals exact⟨_,Fg.refl _,i,by omega,K2,ns2,by omega,I2,hbm2,ac,ac,ac,ac,ac⟩
  |zero=>
   have e:(((0:Nat):Int) - 1)=-1:=rfl
   rw[e]at e19
   have hmem:=I.mem
   have hcnt:=I.cnt
   rw[List.drop_zero,HEV2.out]at hmem
   rw[List.drop_zero,HEV2.out]at e18
   rw[Nat.sub_zero,HLN.out]at hcnt
   have HRR:Hid (OpF s KK n B ns (N+(aj at_ ks).length) (gZ at_ ks vals) (s',K',ns')):=o_ ⟨I.m.om,I.pre,hmem,hcnt,HK0.out.trans I.kp⟩
   clear I HI hmem hcnt
   (repeat'(first|refine Ctl ?_|((with_reducible refine k_ hK ?_);clear hK hE K E)|((with_reducible refine bZ (fun h=>?_) (fun h=>?_))<;>(try(exfalso;assumption)))|(((with_reducible refine ab fun K E hK hE=>?_))<;>(try simp(disch:=omega) only[go_sem,seval, *]))))
   all_goals(refine aq F5 hQ ?_)
   all_goals exact⟨_,_,Wk.refl _,Fg.refl _,pB (K',ns') rfl HRR.out⟩
end Go.Proofs.YtohnaepcgnbaiaaGreatDoor
namespace Go.Proofs.YtohnaepcgnbaiaaGreatDoor
open Go.RowKit
attribute [-go_sem] bJ cX bH bG
end Go.Proofs.YtohnaepcgnbaiaaGreatDoor
namespace Go.Proofs.YtohnaepcgnbaiaaGreatDoor
open Go.RowKit
theorem FE (s:St)(c q:Nat)(D A:VV)(h:s c=.obj 132 [.ptr q 0,D,A]):SRet Tryz.prog 63 [.ptr c 0] s (.ptr q 0) s:=by
 refine am Tryz.func63 rfl Tryz.ntmps63 rfl fun Q hQ hQe=>?_
 (repeat'(first|refine Ctl ?_|((with_reducible refine k_ hK ?_);clear hK hE K E)|((with_reducible refine bZ (fun h=>?_) (fun h=>?_))<;>(try(exfalso;assumption)))|(((with_reducible refine ab fun K E hK hE=>?_))<;>(try simp(disch:=omega) only[go_sem,seval, *]))))
 all_goals(refine aq FX hQ ?_)
 all_goals(refine⟨_,_,Wk.of_eq ?_,?_,rfl,rfl⟩)
 all_goals first|rfl|(exact bK)
section
variable {s u : St} {K : OB} {q c : Nat} {ns : Td} {x y : Nat} {o : TU} {N : Nat}
end
theorem C1 {k m:Nat}:((k:Int)).tmod ((m:Nat):Int)=((k % m:Nat):Int):=by rw[Int.tmod_eq_emod_of_nonneg (Int.natCast_nonneg _)];rfl
abbrev bW (l:TX):Ta:=cu l
theorem kY {l:TX}:(bW l).length=l.length:=jl
theorem zO {l:TX}{i:Nat}{r:TZ}(h:l[i]?=some r):(bW l)[i]?=some [.lst (aI r) .no]:=qP h
theorem pV {l m:TX}:bW (l++m)=bW l++bW m:=by simp[cu]
theorem yy {a b:TZ}{i:Nat}{x y:Int}(hx:a[i]?=some x)(hy:b[i]?=some y):ef (a.drop i) (b.drop i)=if x=y then ef (a.drop (i+1)) (b.drop (i+1))else decide (x<y):=by
 obtain⟨h1,rfl⟩:=x_.1 hx
 obtain⟨h2,rfl⟩:=x_.1 hy
 rw[c_ h1,c_ h2]
 simp only[ef]
theorem MP (a b:TZ)(o1 o2:Own)(ha:a.length<=1000000000)(hb:b.length<=1000000000)(t:St):SRet Tryz.prog 45 [.lst (aI a) o1,.lst (aI b) o2] t (.bool (ef a b)) t:=by
 have hl1:(aI a).length=a.length:=dW
 have hl2:(aI b).length=b.length:=dW
 generalize hR:ef a b=R
 have HR:=o_ hR
 clear hR
 refine am Tryz.func45 rfl Tryz.ntmps45 rfl fun Q hQ hQe=>?_
 (repeat'(first|refine Ctl ?_|((with_reducible refine k_ hK ?_);clear hK hE K E)|(((with_reducible refine ab fun K E hK hE=>?_))<;>(try simp(disch:=omega) only[go_sem,seval,hl1,hl2, *]))))
 refine aY (fun m env s'=>∃(i:Nat),i<=a.length/\i<=b.length/\m+i=a.length/\Hid (ef (a.drop i) (b.drop i)=R)/\s'=t/\env 0=.lst (aI a) o1/\env 1=.lst (aI b) o2/\env 5=.int .i64 i) a.length
  ⟨0,by omega,by omega,by omega,HR,rfl,ac,ac,ac⟩ ?_
 rintro m env s' ⟨i,hi,hi2,hm,HH,rfl,e0,e1,e5⟩
 by_cases h1:i<a.length
 ·by_cases h2:i<b.length
  ·obtain⟨x,hx⟩:∃x,a[i]?=some x:=⟨_,m_ h1⟩
   obtain⟨y,hy⟩:∃y,b[i]?=some y:=⟨_,m_ h2⟩
   have sx:=ej hx
   have sy:=ej hy
   have hd:=(yy hx hy).symm.trans HH.out
   clear hx hy
   by_cases e:x=y
   ·rw[if_pos e]at hd
    have HD:=o_ hd
    clear hd
    subst e
    (repeat'(first|refine Ctl ?_|(with_reducible first|(refine k_ hK ?_;clear hK hE K E)|(refine k_ hKh ?_;clear hKh Kh)|refine ax 4 [] [0,1,2,3,4,5,6,7,8] hQe fun K E hK hE=>?_)|((with_reducible refine bZ (fun h=>?_) (fun h=>?_))<;>(try(exfalso;assumption)))|(((with_reducible first|refine ab fun K E hK hE=>?_|refine aG fun Kh hKh=>?_))<;>(try simp(disch:=omega) only[go_sem,seval,hl1,hl2,sx,sy, *]))))
    all_goals exact⟨m - 1,by omega,i+1,by omega,by omega,by omega,HD,rfl,ac,ac,ac⟩
   ·rw[if_neg e]at hd
    have HD:=o_ hd
    have e':=eq_false e
    clear hd e
    (repeat'(first|refine Ctl ?_|(with_reducible first|(refine k_ hK ?_;clear hK hE K E)|(refine k_ hKh ?_;clear hKh Kh)|refine ax 4 [] [0,1,2,3,4,5,6,7,8] hQe fun K E hK hE=>?_|refine ax 5 [] [0,1,2,3,4,5,6,7,8,9] hQe fun K E hK hE=>?_)|((with_reducible refine bZ (fun h=>?_) (fun h=>?_))<;>(try(exfalso;assumption)))|(((with_reducible first|refine ab fun K E hK hE=>?_|refine aG fun Kh hKh=>?_))<;>(try simp(disch:=omega) only[go_sem,seval,hl1,hl2,sx,sy,e', *]))))
    all_goals(refine aq wT hQ ?_)
    all_goals rw[<- HD.out]
    all_goals(refine⟨_,_,Wk.of_eq ?_,?_,rfl,rfl⟩)
    all_goals first|rfl|(exact bK)
  ·have hd:=HH.out
   rw[List.drop_of_length_le (l:=b) (by omega),c_ h1]at hd
   have hR:R=false:=hd.symm
   subst hR
   clear hd
   have hle:¬ a.length<b.length:=by omega
   (repeat'(first|refine Ctl ?_|((with_reducible refine k_ hK ?_);clear hK hE K E)|((with_reducible refine bZ (fun h=>?_) (fun h=>?_))<;>(try(exfalso;assumption)))|(((with_reducible refine ab fun K E hK hE=>?_))<;>(try simp(disch:=omega) only[go_sem,seval,hl1,hl2, *]))))
   all_goals(refine aq wT hQ ?_)
   all_goals(refine⟨_,_,Wk.of_eq ?_,?_,rfl,rfl⟩)
   all_goals first|rfl|(exact bK)
 ·have hd:=HH.out
  have hie:i=a.length:=by omega
  rw[List.drop_of_length_le (l:=a) (by omega)]at hd
  have hR:R=decide (a.length<b.length):=by
   rw[<- hd]
   by_cases h3:i<b.length
   ·rw[c_ h3]
    simp[ef]
    omega
   ·rw[List.drop_of_length_le (by omega)]
    simp[ef]
    omega
  have HR2:=o_ hR
  clear hd hR
  (repeat'(first|refine Ctl ?_|((with_reducible refine k_ hK ?_);clear hK hE K E)|((with_reducible refine bZ (fun h=>?_) (fun h=>?_))<;>(try(exfalso;assumption)))|((first|(with_reducible refine ab fun K E hK hE=>?_)|((with_reducible refine pH (fun h=>?_) (fun h=>?_))<;>(try(exfalso;omega))))<;>(try simp(disch:=omega) only[go_sem,seval,hl1,hl2, *]))))
  all_goals(refine aq wT hQ ?_)
  all_goals rw[HR2.out]
  all_goals(refine⟨_,_,Wk.of_eq ?_,?_,rfl,rfl⟩)
  all_goals first|rfl|(exact bK)
theorem ls {s:St}:s.disown .full=s:=rfl
theorem AE {s:St}{T sz n:Nat}:iZ s .full T sz n=(n=0):=rfl
theorem Lo {s:St}{T sz n:Nat}:s.own .full T sz n=s:=rfl
theorem nE {l:TX}{k:Nat}:(bW l).take k=bW (l.take k):=by simp[cu,List.map_take]
theorem nF {l:TX}{k:Nat}:(bW l).drop k=bW (l.drop k):=by simp[cu,List.map_drop]
theorem eI {l:TX}:∀y,y∈bW l->y.length=1:=fun y hy=>by
 obtain⟨q,_,rfl⟩:=A_.1 hy
 rfl
attribute [local go_sem] ls AE Lo
theorem B6 (l:TX)(r:TZ)(o1:Own)(hl:dL l)(hr:r.length<=1000000000)(t:St):SRet Tryz.prog 15 [.lst (bW l) o1,.lst (aI r) .no] t (.lst (bW (putRow l r)) .no) t:=by
 have hl1:(bW l).length=l.length:=kY
 obtain⟨ha1,ha2⟩:=hl
 generalize hR:putRow l r=R
 have HR:=o_ hR
 clear hR
 refine am Tryz.func15 rfl Tryz.ntmps15 rfl fun Q hQ hQe=>?_
 (repeat'(first|refine Ctl ?_|((with_reducible refine k_ hK ?_);clear hK hE K E)|(((with_reducible refine ab fun K E hK hE=>?_))<;>(try simp(disch:=omega) only[go_sem,seval,hl1, *]))))
 refine aY (fun m env s'=>∃(i:Nat),i<=l.length/\m+i=l.length/\Hid (∀(j:Nat) (a:TZ),j<i->l[j]?=some a->ef a r=true)/\s'=t/\env 0=.lst (bW l) o1/\env 1=.lst (aI r) .no/\env 5=.int .i64 i) l.length
  ⟨0,by omega,by omega,o_ (fun j a h=>by omega),rfl,ac,ac,ac⟩ ?_
 rintro m env s' ⟨i,hi,hm,HH,rfl,e0,e1,e5⟩
 by_cases h2:i<l.length
 ·obtain⟨x,hx⟩:∃x,l[i]?=some x:=⟨_,m_ (by omega)⟩
  have sx:=zO hx
  have hxm:=y_ hx
  have w1:=fun s=>pi x r .no .no (by have:=ha2 x hxm;omega) (by omega) s
  have w2:=fun s=>MP x r .no .no (ha2 x hxm) hr s
  cases hlx:ef x r with
  |true=>
   have HT:∀(j:Nat) (a:TZ),j<i+1->l[j]?=some a->ef a r=true:=fun j a hj ha=>by
    by_cases e:j=i
    ·subst e;rw[hx]at ha;injection ha with ha;subst ha;exact hlx
    ·exact HH.out j a (by omega) ha
   have HT2:=o_ HT
   rw[hlx]at w2
   clear HT hx hxm hlx w1
   (repeat'(first|refine Ctl ?_|((with_reducible refine k_ hK ?_);clear hK hE K E)|((with_reducible refine bZ (fun h=>?_) (fun h=>?_))<;>(try(exfalso;assumption)))|(((with_reducible first|refine ab fun K E hK hE=>?_|refine ae BH (w2 _) ?_))<;>(try simp(disch:=omega) only[go_sem,seval,hl1,sx, *]))))
   all_goals exact⟨m - 1,by omega,i+1,by omega,by omega,HT2,rfl,ac,ac,ac⟩
  |false=>
   have hsp:=gy (l:=l) (r:=r) i HH.out (fun a ha=>by rw[hx]at ha;injection ha with ha;subst ha;exact hlx) hi
   rw[hx]at hsp
   rw[hlx]at w2
   by_cases e:x=r
   ·rw[if_pos (by rw[e])]at hsp
    have hR:R=l:=HR.out.symm.trans hsp
    subst hR
    rw[show decide (x=r)=true by simp[e]]at w1
    clear hsp hx hxm hlx e
    (repeat'(first|refine Ctl ?_|((with_reducible refine k_ hK ?_);clear hK hE K E)|((with_reducible refine bZ (fun h=>?_) (fun h=>?_))<;>(try(exfalso;assumption)))|(((with_reducible first|refine ab fun K E hK hE=>?_|refine ae BH (w2 _) ?_|refine ae xI (w1 _) ?_))<;>(try simp(disch:=omega) only[go_sem,seval,hl1,sx, *]))))
    all_goals(refine aq wV hQ ?_)
    all_goals exact⟨_,_,Wk.lst _ _,Fg.refl _,rfl,rfl⟩
   ·rw[if_neg (by intro h;injection h with h;exact e h)]at hsp
    have hRV:bW R=bW (l.take i)++[cK r]::bW (l.drop i):=by rw[<- HR.out,hsp,pV];rfl
    have HRV:=o_ hRV
    rw[show decide (x=r)=false by simp[e]]at w1
    have hlt:(bW (l.take i)).length=i:=by rw[kY,r_];omega
    have hld:(bW (l.drop i)).length=l.length - i:=by rw[kY,u_]
    have ht1:=eI (l:=l.take i)
    have hd1:=eI (l:=l.drop i)
    have hz:(0<=i/\∀x,x∈bW l->x.length=1)=True:=eq_true ⟨Nat.zero_le i,eI⟩
    have hz2:(l.length<=l.length/\∀x,x∈bW l->x.length=1)=True:=eq_true ⟨Nat.le_refl _,eI⟩
    have hla:(bW (l.take i)++[[VV.lst (aI r) .no]]).length=i+1:=by rw[p_,hlt];rfl
    have hly:∀y,y∈bW (l.take i)++[[VV.lst (aI r) .no]]->y.length=1:=fun y hy=>by
     rcases f_.1 hy with h|h
     ·exact ht1 y h
     ·rw[a_]at h;subst h;rfl
    clear hsp hx hxm hlx e hRV
    (repeat'(first|refine Ctl ?_|((with_reducible refine k_ hK ?_);clear hK hE K E)|((with_reducible refine bZ (fun h=>?_) (fun h=>?_))<;>(try(exfalso;assumption)))|((first|(with_reducible first|refine ab fun K E hK hE=>?_|refine ae BH (w2 _) ?_|refine ae xI (w1 _) ?_)|((with_reducible refine fC (fun o2 ho=>?_));(try simp(disch:=assumption) only[bz,bB,cZ,c6,z_,List.length_cons,List.length_nil,Nat.zero_add,hl1,sx,nE,nF,hlt,hld,hz,hz2,hla,b_]at ho);(try(simp only[ls]at ho))))<;>(try simp(disch:=first|assumption|omega) only[go_sem,seval,hl1,sx,nE,nF,hlt,hld,hz,hz2,hla,b_, *]))))
    all_goals(refine aq wV hQ ?_)
    all_goals(have hv:bW R=(bW (l.take i)++[[VV.lst (aI r) .no]])++bW (l.drop i):=by rw[HRV.out,List.append_assoc];rfl)
    all_goals rw[hv]
    all_goals exact⟨_,_,Wk.lst _ _,Fg.own ho,rfl,rfl⟩
 ·obtain rfl:i=l.length:=by omega
  have hsp:=gy (l:=l) (r:=r) l.length HH.out (fun a ha=>by simp at ha) (Nat.le_refl _)
  rw[if_neg (by simp),b_,B_]at hsp
  have hRV:bW R=bW l++[[cK r]]:=by rw[<- HR.out,hsp,pV];rfl
  have HRV:=o_ hRV
  clear hsp hRV
  have ht1:=eI (l:=l)
  have hz:(0<=l.length/\∀x,x∈bW l->x.length=1)=True:=eq_true ⟨Nat.zero_le _,eI⟩
  have htk:(bW l).take l.length=bW l:=by rw[s_ (by rw[hl1];omega)]
  have hdk:(bW l).drop l.length=[]:=by rw[List.drop_of_length_le (by rw[hl1];omega)]
  have hla:(bW l++[[VV.lst (aI r) .no]]).length=l.length+1:=by rw[p_,hl1];rfl
  have hly:∀y,y∈bW l++[[VV.lst (aI r) .no]]->y.length=1:=fun y hy=>by
   rcases f_.1 hy with h|h
   ·exact ht1 y h
   ·rw[a_]at h;subst h;rfl
  have hn0:∀y,y∈([]:Ta)->y.length=1:=fun y hy=>by cases hy
  (repeat'(first|refine Ctl ?_|((with_reducible refine k_ hK ?_);clear hK hE K E)|((with_reducible refine bZ (fun h=>?_) (fun h=>?_))<;>(try(exfalso;assumption)))|((first|(with_reducible first|refine ab fun K E hK hE=>?_|refine d6 ?_)|((with_reducible refine fC (fun o2 ho=>?_));(try simp(disch:=assumption) only[bz,bB,cZ,c6,z_,List.length_cons,List.length_nil,Nat.zero_add,hl1,hz,htk,hdk,hla]at ho);(try(simp only[ls]at ho))))<;>(try simp(disch:=first|assumption|omega) only[go_sem,seval,hl1,hz,htk,hdk,hla, *]))))
  all_goals(refine aq wV hQ ?_)
  all_goals rw[HRV.out]
  all_goals exact⟨_,_,Wk.lst _ _,Fg.own ho,rfl,rfl⟩
end Go.Proofs.YtohnaepcgnbaiaaGreatDoor
namespace Go.Proofs.YtohnaepcgnbaiaaGreatDoor
open Go.RowKit
attribute [-go_sem] bJ cX bH bG
def eE (t:TW):TZ:=t.map fun(k:Nat)=>(k:Int)
def br (T:TU):TX:=T.foldl (fun l t=>putRow l (eE t)) []
theorem jH {T:TU}{t:TW}:br (T++[t])=putRow (br T) (eE t):=by simp[br]
theorem sK {r:TZ}:∀{T:TU} {l:TX},r∈T.foldl (fun l t=>putRow l (eE t)) l↔r∈l\/∃t,t∈T/\r=eE t
 |[],l=>by simp
 |t::T,l=>by
  rw[List.foldl_cons,sK,gz]
  simp only[AT]
  constructor
  ·rintro((h|h)|⟨u,h,e⟩)
   ·exact .inl h
   ·exact .inr ⟨t,.inl rfl,h⟩
   ·exact .inr ⟨u,.inr h,e⟩
  ·rintro(h|⟨u,rfl|h,e⟩)
   ·exact .inl (.inl h)
   ·exact .inl (.inr e)
   ·exact .inr ⟨u,h,e⟩
theorem lP:∀{T:TU} {l:TX},Rising l->Rising (T.foldl (fun l t=>putRow l (eE t)) l)
 |[],_,h=>h
 |t::T,l,h=>lP (T:=T) (fD h)
theorem sY:∀{T:TU} {l:TX},(T.foldl (fun l t=>putRow l (eE t)) l).length<=l.length+T.length
 |[],l=>by simp
 |t::T,l=>by
  have h:=sY (T:=T) (l:=putRow l (eE t))
  have h2:=(oB (l:=l) (r:=eE t)).1
  simp only[List.foldl_cons,List.length_cons]
  omega
def vN (o:TU)(x:Tg)(k:Nat):Nat:=bX (o.getD k []) x
def Tells (o:TU)(ks:TW)(S:TW->Prop)(g:Tf):Prop:=∀x,g x=true↔S (ks.map (vN o x))
theorem zy {o:TU}{ks:TW}{x y:Tg}(h:∀v,v∈aj o ks->x v=y v):ks.map (vN o x)=ks.map (vN o y):=
 List.map_congr_left fun k hk=>cO fun v hv=>h v (List.mem_flatMap.2 ⟨k,hk,hv⟩)
theorem Tells.dep {o:TU}{ks:TW}{S:TW->Prop}{g:Tf}(h:Tells o ks S g):DepF (aj o ks) g:=fun x y e=>by
 rw[Bool.eq_iff_iff,h x,h y,zy e]
theorem Tells.congr {o:TU}{ks:TW}{S S':TW->Prop}{g:Tf}(h:Tells o ks S g)(hs:∀r,r.length=ks.length->(S r↔S' r)):Tells o ks S' g:=fun x=>(h x).trans (hs _ (by simp))
theorem kS {o:TU}{x:Tg}:∀{ks t:TW},t.length=ks.length->(gZ o ks t x=true↔ks.map (vN o x)=t)
 |[],[],_=>by simp[gZ]
 |[],_::_,h=>by simp at h
 |_::_,[],h=>by simp at h
 |k::ks,v::t,h=>by
  have ih:=kS (o:=o) (x:=x) (ks:=ks) (t:=t) (by simpa using h)
  simp only[gZ,List.zip_cons_cons,List.all_cons,Bool.and_eq_true,decide_eq_true_eq,List.map_cons,List.cons.injEq]at ih ⊢
  exact and_congr Iff.rfl ih
def orK (o:TU)(ks:TW)(T:TU)(x:Tg):Bool:=T.any fun t=>gZ o ks t x
theorem Ex {o:TU}{ks:TW}{T:TU}{t:TW}:(fun x=>orK o ks T x || gZ o ks t x)=orK o ks (T++[t]):=by
 funext x
 simp[orK]
theorem qj {o:TU}{ks:TW}{T:TU}(h:∀t,t∈T->t.length=ks.length):Tells o ks (·∈T) (orK o ks T):=fun x=>by
 simp only[orK,List.any_eq_true]
 constructor
 ·rintro⟨t,ht,e⟩
  rw[(kS (h t ht)).1 e];exact ht
 ·intro ht
  exact⟨_,ht,(kS (h _ ht)).2 rfl⟩
theorem sX {by_:Nat->Nat}:∀{l l':TW} {x:Tg},l.map by_=l'->bX l (fun v=>x (by_ v))=bX l' x
 |[],_,x,h=>by subst h;rfl
 |v::l,_,x,h=>by
  subst h
  simp only[List.map_cons,bX]
  rw[sX (l:=l) (l':=l.map by_) (x:=x) rfl]
theorem Tells.ren {o:TU}{ks ks':TW}{S:TW->Prop}{g:Tf}{by_:Nat->Nat}(h:Tells o ks S g)(hb:ks.map (fun k=>(o.getD k []).map by_)=ks'.map fun k=>o.getD k []):Tells o ks' S (rnF by_ g):=fun x=>by
 have e:ks.map (vN o fun v=>x (by_ v))=ks'.map (vN o x):=by
  have h1:ks.map (vN o fun v=>x (by_ v))=(ks.map fun k=>(o.getD k []).map by_).map fun l=>bX l x:=by
   rw[List.map_map]
   exact List.map_congr_left fun k _=>sX rfl
  rw[h1,hb,List.map_map]
  rfl
 rw[<- e]
 exact h _
theorem QV {n:Nat}{ds:TN}{o:TU}(hD:DOk n ds o){d v:Nat}(hd:d<ds.length)(hv:v<2 ^ (o.getD d []).length)(x:Tg) :
  ∃y:Tg,(∀w,w∉o.getD d []->y w=x w)/\vN o y d=v/\∀k,k<ds.length->k≠d->vN o y k=vN o x k:=by
 have hnd:=cr hD (ks:=[d]) (by simp) (by simpa using hd)
 rw[xS]at hnd
 refine⟨cV (o.getD d []) v x,fun w hw=>iw hw,?_,fun k hk hne=>?_⟩
 ·unfold vN
  rw[nV hnd,Nat.mod_eq_of_lt hv]
 ·refine cO fun w hw=>iw fun hd2=>?_
  have h2:=cr hD (ks:=[d,k]) (by simpa using fun e=>hne e.symm) (by simpa using⟨hd,hk⟩)
  rw[ug]at h2
  exact(List.nodup_append.1 h2).2.2 w hd2 w hw rfl
theorem uk {n:Nat}{ds:TN}{o:TU}(hD:DOk n ds o){ks:TW}(hks:∀k,k∈ks->k<ds.length)(hnd:ks.Nodup){S:TW->Prop}{g:Tf}(hg:Tells o ks S g){R:TX}(hR:Rising R)
  (hm:∀r:TZ,r∈R↔∃t:TW,S t/\t.length=ks.length/\(∀p,p∈ks.zip t->p.2<2 ^ (o.getD p.1 []).length)/\r=eE t):dO (gq (treeT n g) o ks)=R:=by
 symm
 refine nr hR fun r=>?_
 rw[CH hD hks hnd hg.dep,hm]
 constructor
 ·rintro⟨t,hS,hl,hlt,rfl⟩
  have hN:=cr hD hnd hks
  obtain⟨x,hx⟩:=AK ((ks.zip t).map fun p=>(o.getD p.1 [],p.2)) (by
   have e:((ks.zip t).map fun p=>(o.getD p.1 [],p.2)).map (·.1)=ks.map fun k=>o.getD k []:=by
    rw[List.map_map]
    show (ks.zip t).map (fun p=>o.getD p.1 [])=_
    have e2:=List.map_map (f:=Prod.fst) (g:=fun k=>o.getD k []) (l:=ks.zip t)
    rw[List.map_fst_zip (by omega)]at e2
    exact e2.symm
   rw[e];exact hN) (fun p hp=>by
   obtain⟨q,hq,rfl⟩:=A_.1 hp
   exact hlt q hq)
  have e:ks.map (vN o x)=t:=by
   apply List.ext_getElem (by simp[hl])
   intro i h1 h2
   simp at h1
   have:=hx (o.getD ks[i] [],t[i]) (A_.2 ⟨(ks[i],t[i]),by
    rw[List.mem_iff_getElem]
    exact⟨i,by simp;omega,by simp⟩,rfl⟩)
   simpa [vN]using this
  refine⟨x,(hg x).2 (by rw[e];exact hS),?_⟩
  rw[<- e,eE,List.map_map]
  rfl
 ·rintro⟨x,hx,rfl⟩
  refine⟨ks.map (vN o x),(hg x).1 hx,by simp,fun p hp=>?_,by rw[eE,List.map_map];rfl⟩
  rw[List.mem_iff_getElem]at hp
  obtain⟨i,hi,rfl⟩:=hp
  simp[vN]
  exact jO _ _
theorem iP (l:TX)(r:TZ)(o1 o2:Own)(hl:dL l)(hr:r.length<=1000000000)(t:St):SRet Tryz.prog 15 [.lst (cu l) o1,.lst (aI r) o2] t (.lst (cu (putRow l r)) .no) t:=by
 refine SCalls.wk (B6 l r o1 hl hr t) rfl fun j x y hx hy=>?_
 match j with
 |0=>simp at hx hy;subst hx;subst hy;exact Wk.refl _
 |1=>simp at hx hy;subst hx;subst hy;exact Wk.lst _ _
 |j+2=>simp at hx
abbrev Tri:=Int×Int×Int
def k9 (T:List Tri):Ta:=T.map fun t=>[.int .i64 t.1,.int .i64 t.2.1,.int .i64 t.2.2]
theorem GY {T:List Tri}:(k9 T).length=T.length:=by simp[k9]
theorem PX {T:List Tri}{i:Nat}{t:Tri}(h:T[i]?=some t):(k9 T)[i]?=some [.int .i64 t.1,.int .i64 t.2.1,.int .i64 t.2.2]:=by simp[k9,h]
def lo2 (a:Int):Nat:=jw 2 a
theorem vd (a:Int):lo2 a<4:=Fc 2 a
theorem fA (a:Int):bF .and .i64 a 3=some (.int .i64 ((lo2 a:Nat):Int)):=by
 have h:=rI (w:=2) (by omega) a
 have e:IntKind.i64.wrap (((2 ^ 2:Nat):Int) - 1)=3:=by decide
 rwa [e]at h
theorem nY {T:TU}{r:TZ}:r∈br T↔∃t,t∈T/\r=eE t:=by
 rw[br,sK];simp
theorem pZ (T:TU):Rising (br T):=lP Rising.nil
theorem Q8 (T:TU):(br T).length<=T.length:=by
 have:=sY (T:=T) (l:=[])
 simpa [br]using this
theorem CI {n:Nat}{ds:TN}{o:TU}(hD:DOk n ds o){ks:TW}(hks:∀k,k∈ks->k<ds.length)(ho:∀k,k∈ks->(o.getD k []).length=2)(hnd:ks.Nodup){T:TU}{g:Tf}(hg:Tells o ks (·∈T) g)
  (hT:∀t,t∈T->t.length=ks.length/\∀v,v∈t->v<4):dO (gq (treeT n g) o ks)=br T:=by
 refine uk hD hks hnd hg (pZ T) fun r=>?_
 rw[nY]
 constructor
 ·rintro⟨t,ht,rfl⟩
  refine⟨t,ht,(hT t ht).1,fun p hp=>?_,rfl⟩
  rw[ho _ (List.of_mem_zip hp).1]
  exact(hT t ht).2 _ (List.of_mem_zip hp).2
 ·rintro⟨t,ht,_,_,e⟩
  exact⟨t,ht,e⟩
abbrev Par:=Int×Int
def pN (t:Par):TW:=[lo2 t.1,lo2 t.2]
theorem jG {T:TU}{w:Nat}(hT:∀t,t∈T->t.length=w/\∀v,v∈t->v<4):(br T).length<=4 ^ w:=by
 have key:∀w,∃U:TU,U.length=4 ^ w/\∀t:TW,t.length=w->(∀v,v∈t->v<4)->t∈U:=by
  intro w
  induction w with
  |zero=>exact⟨[[]],rfl,fun t h _=>by simp[List.length_eq_zero_iff.1 h]⟩
  |succ w ih=>
   obtain⟨U,h1,h2⟩:=ih
   refine⟨[0,1,2,3].flatMap fun a=>U.map (a::·),?_,fun t h hv=>?_⟩
   ·simp[h1,Nat.pow_succ];omega
   ·cases t with
    |nil=>simp at h
    |cons a t=>
     have ha:=hv a (List.mem_cons_self ..)
     have:=h2 t (by simpa using h) fun v hv2=>hv v (List.mem_cons_of_mem _ hv2)
     rw[List.mem_flatMap]
     refine⟨a,?_,A_.2 ⟨t,this,rfl⟩⟩
     have:a=0\/a=1\/a=2\/a=3:=by omega
     simpa using this
 obtain⟨U,h1,h2⟩:=key w
 have h3:=ed (X:=br T) (Y:=U.map eE) (pZ T).nodup fun r hr=>by
  obtain⟨t,ht,rfl⟩:=nY.1 hr
  exact A_.2 ⟨t,h2 t (hT t ht).1 (hT t ht).2,rfl⟩
 rwa [z_,h1]at h3
end Go.Proofs.YtohnaepcgnbaiaaGreatDoor
namespace Go.Proofs.YtohnaepcgnbaiaaGreatDoor
open Go.RowKit Go.Lib Go.Shelf
theorem mi {P:Program}{w:World}(base:Nat)(t ty e:TypeId)(i:TypeInfo)(size:Nat)(ht:P.underlying t=some (.slice e))(hi:P.info? e=some i)(v:Value)(n:Nat)(xs:List Value)(hown:w.ownsRow base e size v n xs)(p:Option Addr)(c:Nat) :
  (Builtin.append_ #[t,t] ty #[v,.slice p 0 c]).run P w=.ok v w:=by
 cases p with
 |none=>
  rcases hown.2 with ⟨rfl,rfl⟩|⟨g,cap,cur,rfl,_,_,hnc,_⟩
  ·simp[Builtin.append_,run_underlying ht,sizeOf,typeInfo,hi,Builtin.lenOf,Builtin.firstCells]
  ·simp[Builtin.append_,run_underlying ht,sizeOf,typeInfo,hi,Builtin.lenOf,Builtin.firstCells,hnc,storeCells]
 |some p=>
  rcases hown.2 with ⟨rfl,rfl⟩|⟨g,cap,cur,rfl,_,_,hnc,_⟩
  ·simp[Builtin.append_,run_underlying ht,sizeOf,typeInfo,hi,Builtin.lenOf,Builtin.firstCells,loadCells,loadCellsFrom]
  ·simp[Builtin.append_,run_underlying ht,sizeOf,typeInfo,hi,Builtin.lenOf,Builtin.firstCells,hnc,storeCells,loadCells,loadCellsFrom]
theorem i5 {P:Program}{w:World}{ops:Array Oper}{rest:List Oper}{o:Oper}{a:Act}{Q:Exit->Act->World->Prop}(hgd:o.guard=none)(s x:Operand)(t:TypeId)
  (ho:o.op=.call { callee:=.builtin .append,args:=#[s,x],argTypes:=#[t,t] })
  (base:Nat) (e:TypeId) (i:TypeInfo) (size:Nat) (ht:P.underlying t=some (.slice e)) (hi:P.info? e=some i)
  (v:Value) (n:Nat) (xs:List Value) (hs:a.eval s=v) (hown:w.ownsRow base e size v n xs) (p:Option Addr) (c:Nat) (hx:a.eval x=.slice p 0 c)
  (h:wpList P ops Q rest (a.put o.dst v) w):wpList P ops Q (o::rest) a w:=by
 refine wpList_plain hgd fun K hK=>?_
 have hrun:=mi (P:=P) (w:=w) base t o.type e i size ht hi v n xs hown p c
 unfold Oper.wp
 simp[execOp,ho,resolve,invoke,builtin,hs,hx,hrun,Result.andThen]
 exact hK _ _ h
theorem vz {P:Program}{ρ:Ren}(L:Go.Proofs.SlLaysE0.n41 P ρ)(i0:TypeInfo)(size:Nat)(hi:P.info? (ρ.t 23)=some i0)(z23:∀w,(Go.sizeOf (ρ.t 23)).run P w=.ok size w)(a:Addr)(c:Nat)(w:World) :
  Calls P (ρ.f 41) #[.slice (some a) 0 c] w fun e w'=>(∃a' c',e=.returned (.slice a' 0 c'))/\Below w.heap.size w w':=by
 have mixed:=L.mixed;have t4:=L.t4;have a4:=L.a4;have z4:=L.z4;have v4:=L.v4;have t22:=L.t22;have a22:=L.a22;have z22:=L.z22;have v22:=L.v22
 have q22:∀(w:World) (a:Option Addr) (n c n' c':Nat),(binOp .eql (ρ.t 22) (.slice a n c) (.slice none n' c')).run P w=.ok (.bool a.isNone) w:=fun w a n c n' c'=>Lib.run_eql_slice_nil w _ _ a n c n' c' L.t22
 have u22:∀w,Sem.run P (underlying (ρ.t 22)) w=.ok (TypeDesc.slice (ρ.t 23)) w:=run_underlying t22
 obtain⟨_,_,FG⟩:=L.f41
 go_enter FG,SlBodyN.n41_ntmps ρ
 go_wp2_with (at_builtin;refine i5 rfl _ _ (ρ.t 22) rfl w.heap.size (ρ.t 23) i0 size t22 hi _ _ _ rfl (World.ownsRow_made w #[] 0 (Nat.le_refl _) (Nat.zero_le _) (by simp)) (some a) c rfl ?_)
 go_wp2
 go_ret
 exact⟨⟨_,_,rfl⟩,(Below.refl _ w).alloc (Nat.le_refl _) _⟩
theorem Cu (s:St)(ow:Own):SRet Tryz.prog 62 [.lst [] ow] s (.lst [] .no) s:=by
 intro w0 G w vs hS hA
 obtain⟨v,rfl,hr⟩:=d7 hA
 have key:∃(a:Option Addr) (cap:Nat),v=.slice a 0 cap:=by
  generalize hq:VV.lst [] ow=q at hr
  cases hr with
  |emp a cap o ho=>exact⟨a,cap,rfl⟩
  |lst b off len cap sz xs o f hl hc hz h1 hK hR ho=>
   injection hq with hq1 hq2
   subst hq1
   simp at hl
   subst hl
   exact⟨_,_,rfl⟩
  |_=>cases hq
 obtain⟨a,cap,rfl⟩:=key
 have hc:Calls Tryz.prog 62 #[.slice a 0 cap] w fun e w'=>(∃a' c',e=.returned (.slice a' 0 c'))/\Below w.heap.size w w':=by
  cases a with
  |none=>
   refine(AnyE.slices_Clone_nil LU 0 cap w).mono ?_
   rintro e w' ⟨rfl,rfl⟩
   exact⟨⟨_,_,rfl⟩,Below.refl _ _⟩
  |some p=>
   have hi:=tE
   cases hi0:Tryz.prog.info? 52 with
   |none=>rw[hi0]at hi;cases hi
   |some i0=>exact vz LU i0 2 hi0 Tryz.sizeOf52 p cap w
 refine hc.mono ?_
 rintro e w' ⟨⟨a',c',rfl⟩,hb⟩
 exact⟨G,s,.ret (.lst [] .no),Gh.le.refl G,hS.world hb,.emp a' c' .no (.inl rfl),rfl,rfl⟩
end Go.Proofs.YtohnaepcgnbaiaaGreatDoor
namespace Go.Proofs.YtohnaepcgnbaiaaGreatDoor
open Go.RowKit
theorem t6 (s:St)(xs:Ta)(ow:Own)(hx:∀x,x∈xs->x.length=2)(hl:xs.length<=1000000):SRet Tryz.prog 62 [.lst xs ow] s (.lst xs .no) s:=by
 by_cases h:xs=[]
 ·subst h;exact Cu s ow
 ·exact Cw s xs ow h hx hl
theorem FF {s:St}{KK:OB}{n B q:Nat}{ns:Td}(hO:OMem s KK n B ns)(hq:s q=.obj 126 [.ptr KK.o 0,.ptr KK.s.p 0])(ds:List Dm)(ow:Own)(od:TT)(hl:ds.length<=1000000)(hnl:∀d,d∈ds->d.1.length<=1000000000)(hod:od.length<=10000) :
  SCalls Tryz.prog 25 [.ptr q 0,.lst (cH ds) ow,.str od] s fun w u=>∃a:zn,w=.ret (Lw a.2 (jo n ds od))/\u=a.1/\MM s a.1 q a.2 ds (jo n ds od):=by
 obtain⟨d,cc,ho⟩:=hO.op
 obtain⟨mk,hM⟩:=hO.st.mem
 have wq:=dD s q KK.o KK.s.p hq
 have ws:=eU s KK.o KK.s.p d cc ho
 have wv:=kI s KK.s.p KK.s.g KK.s.q n B ns mk 0 hM
 have wc:=Ce s ds ow hl hnl
 have wb:=Fw s ds ow hl hnl
 have wp:=Cd s ds ow od hl hnl hod
 have wl:=t6 s (cH ds) ow (fun x hx=>by obtain⟨y,_,rfl⟩:=A_.1 hx;rfl) (by rw[iM];exact hl)
 clear hO hM hq ho hl hnl hod
 have hErr:∀e:Int,jo n ds od=.error e->(SRet Tryz.prog 25 [.ptr q 0,.lst (cH ds) ow,.str od] s (.tup [Pu,.int .i64 e]) s)->SCalls Tryz.prog 25 [.ptr q 0,.lst (cH ds) ow,.str od] s fun w u=>∃a:zn,w=.ret (Lw a.2 (jo n ds od))/\u=a.1/\MM s a.1 q a.2 ds (jo n ds od):=fun e h hs=>by
  rw[h]
  refine SCalls.mono (h:=hs) ?_
  rintro w u ⟨rfl,rfl⟩
  exact⟨(u,0),rfl,rfl,rfl⟩
 by_cases h1:iW ds=true
 ·rw[if_pos h1]at wc wb
  by_cases h2:(wdL ds).sum<=n
  ·have e1:jo n ds od=eO ds od:=by unfold jo;rw[if_pos ⟨h1,h2⟩]
   have h2':¬ (((wdL ds).sum:Nat):Int) > (n:Int):=by omega
   have h2'':¬ (n:Int)<(((wdL ds).sum:Nat):Int):=by omega
   cases hp:eO ds od with
   |error e=>
    refine hErr e (e1.trans hp) ?_
    rw[hp]at wp
    have he:¬ e=0:=by rcases uK hp with h|h<;>omega
    simp only[plV]at wp
    clear e1 hErr hp
    generalize cH ds=D at *
    generalize (wdL ds).sum=SM at *
    refine am Tryz.func25 rfl Tryz.ntmps25 rfl fun Q hQ hQe=>?_
    (repeat'(first|refine Ctl ?_|((with_reducible refine k_ hK ?_);clear hK hE K E)|((with_reducible refine bZ (fun h=>?_) (fun h=>?_))<;>(try(exfalso;assumption)))|(((with_reducible first|refine ab fun K E hK hE=>?_|refine ae dK (wq) ?_|refine ae xG (wc) ?_|refine ae BE (wb) ?_|refine ae iv (ws) ?_|refine ae oX (wv) ?_|refine ae GO (wp) ?_))<;>(try simp(disch:=omega) only[go_sem,seval,h2',h2'',he, *]))))
    all_goals(refine aq sG hQ ?_)
    all_goals exact⟨_,_,Wk.refl _,Fg.refl _,rfl,rfl⟩
   |ok o=>
    rw[e1,hp]
    rw[hp]at wp
    simp only[plV]at wp
    have hNR:=fun(b:Nat) (hb:s b=.free)=>show MM s (s.set b (.obj 132 [.ptr q 0,.lst (cH ds) .no,.lst (atC o) .no])) q b ds (.ok o) from ⟨hb,rfl⟩
    have HNR:=o_ hNR
    clear e1 hErr hp hNR
    generalize cH ds=D at *
    generalize (wdL ds).sum=SM at *
    generalize atC o=A at *
    refine am Tryz.func25 rfl Tryz.ntmps25 rfl fun Q hQ hQe=>?_
    (repeat'(first|refine Ctl ?_|((with_reducible refine k_ hK ?_);clear hK hE K E)|((with_reducible refine bZ (fun h=>?_) (fun h=>?_))<;>(try(exfalso;assumption)))|((first|(with_reducible first|refine ab fun K E hK hE=>?_|refine ae dK (wq) ?_|refine ae xG (wc) ?_|refine ae BE (wb) ?_|refine ae iv (ws) ?_|refine ae oX (wv) ?_|refine ae GO (wp) ?_|refine ae GN (wl) ?_)|((with_reducible refine au (fun b hb=>?_))))<;>(try simp(disch:=omega) only[go_sem,seval,h2',h2'', *]))))
    all_goals(refine aq sG hQ ?_)
    exact⟨_,_,Wk.refl _,Fg.refl _,mkA b rfl (HNR.out b hb)⟩
  ·have e1:jo n ds od=.error 1:=by unfold jo;rw[if_neg fun h=>h2 h.2]
   have h2':(((wdL ds).sum:Nat):Int) > (n:Int):=by omega
   have h2'':(n:Int)<(((wdL ds).sum:Nat):Int):=by omega
   refine hErr 1 e1 ?_
   clear e1 hErr wp wl
   generalize cH ds=D at *
   generalize (wdL ds).sum=SM at *
   refine am Tryz.func25 rfl Tryz.ntmps25 rfl fun Q hQ hQe=>?_
   (repeat'(first|refine Ctl ?_|((with_reducible refine k_ hK ?_);clear hK hE K E)|((with_reducible refine bZ (fun h=>?_) (fun h=>?_))<;>(try(exfalso;assumption)))|(((with_reducible first|refine ab fun K E hK hE=>?_|refine ae dK (wq) ?_|refine ae xG (wc) ?_|refine ae BE (wb) ?_|refine ae iv (ws) ?_|refine ae oX (wv) ?_))<;>(try simp(disch:=omega) only[go_sem,seval,h2',h2'', *]))))
   all_goals(refine aq sG hQ ?_)
   all_goals exact⟨_,_,Wk.refl _,Fg.refl _,rfl,rfl⟩
 ·have e1:jo n ds od=.error 1:=by unfold jo;rw[if_neg fun h=>h1 h.1]
  rw[if_neg h1]at wc
  refine hErr 1 e1 ?_
  clear e1 hErr wp wl wb
  generalize cH ds=D at *
  refine am Tryz.func25 rfl Tryz.ntmps25 rfl fun Q hQ hQe=>?_
  (repeat'(first|refine Ctl ?_|((with_reducible refine k_ hK ?_);clear hK hE K E)|((with_reducible refine bZ (fun h=>?_) (fun h=>?_))<;>(try(exfalso;assumption)))|(((with_reducible first|refine ab fun K E hK hE=>?_|refine ae dK (wq) ?_|refine ae xG (wc) ?_))<;>(try simp(disch:=omega) only[go_sem,seval, *]))))
  all_goals(refine aq sG hQ ?_)
  all_goals exact⟨_,_,Wk.refl _,Fg.refl _,rfl,rfl⟩
attribute [-go_sem] bJ cX bH bG
theorem Tells.swap {o:TU}{d e:Nat}{S:TW->Prop}{g:Tf}(h:Tells o [d,e] S g):Tells o [e,d] (fun r=>S r.reverse) g:=fun x=>h x
theorem Tells.iff {o:TU}{ks:TW}{S S':TW->Prop}{g:Tf}(h:Tells o ks S g)(hs:∀r,S r↔S' r):Tells o ks S' g:=h.congr fun r _=>hs r
theorem Bn {g:Tf}{gone:Tg}(h:∀v,gone v=false):exF gone g=g:=by
 funext x
 rw[Bool.eq_iff_iff,mM]
 constructor
 ·rintro⟨y,hy,e⟩
  rwa [show y=x from funext fun v=>hy v (h v)]at e
 ·intro e
  exact⟨x,fun _ _=>rfl,e⟩
theorem Tells.ex3 {n:Nat}{ds:TN}{o:TU}(hD:DOk n ds o){a d e:Nat}(ha:a<ds.length)(hd:d<ds.length)(he:e<ds.length)(h1:a≠d)(h2:e≠d)(hod:(o.getD d []).length=2){S:TW->Prop}{g:Tf}{gone:Tg}(hg:Tells o [a,d,e] S g)(hgo:∀v,gone v=true↔v∈o.getD d []) :
  Tells o [a,e] (fun r=>∃x v y,v<4/\r=[x,y]/\S [x,v,y]) (exF gone g):=fun x=>by
 rw[mM]
 constructor
 ·rintro⟨y,hy,e1⟩
  have hS:=(hg y).1 e1
  simp only[List.map_cons,List.map_nil]at hS ⊢
  have key:∀k,k<ds.length->k≠d->vN o y k=vN o x k:=fun k hk hne=>cO fun v hv=>hy v (by
   rw[<- Bool.not_eq_true,hgo]
   intro hv2
   have h3:=cr hD (ks:=[d,k]) (by simpa using fun e=>hne e.symm) (by simpa using⟨hd,hk⟩)
   rw[ug]at h3
   exact(List.nodup_append.1 h3).2.2 v hv2 v hv rfl)
  rw[key a ha h1,key e he h2]at hS
  refine⟨_,_,_,?_,rfl,hS⟩
  have:=jO (o.getD d []) y
  rw[hod]at this
  exact this
 ·rintro⟨p,v,q,hv,hr,hS⟩
  simp only[List.map_cons,List.map_nil,List.cons.injEq,and_true]at hr
  obtain⟨rfl,rfl⟩:=hr
  obtain⟨y,y1,y2,y3⟩:=QV hD hd (v:=v) (by rw[hod];exact hv) x
  refine⟨y,fun w hw=>y1 w fun hw2=>?_,(hg y).2 ?_⟩
  ·rw[(hgo w).2 hw2]at hw;cases hw
  ·simp only[List.map_cons,List.map_nil]
   rw[y2,y3 a ha h1,y3 e he h2]
   exact hS
theorem Qd (T:TU):∃U:TU,br T=U.map eE/\(∀t,t∈U↔t∈T)/\U.length=(br T).length:=by
 refine⟨(br T).map (·.map Int.toNat),?_,fun t=>?_,by simp⟩
 ·rw[List.map_map]
  conv=>lhs;rw[<- List.map_id (br T)]
  refine List.map_congr_left fun r hr=>?_
  obtain⟨t,ht,rfl⟩:=nY.1 hr
  simp[eE,Function.comp_def]
 ·rw[A_]
  constructor
  ·rintro⟨r,hr,rfl⟩
   obtain⟨t,ht,rfl⟩:=nY.1 hr
   simpa [eE,Function.comp_def]using ht
  ·intro ht
   exact⟨eE t,nY.2 ⟨t,ht,rfl⟩,by simp[eE,Function.comp_def]⟩
def tN3 (t:Tri):TW:=[lo2 t.1,lo2 t.2.1,lo2 t.2.2]
def tXZ (t:Tri):TW:=[lo2 t.1,lo2 t.2.2]
def tZX (t:Tri):TW:=[lo2 t.2.2,lo2 t.1]
def fq (v:Nat)(T:List Tri):TU:=(T.filter fun t=>decide (lo2 t.2.1=v)).map tXZ
def fp (T:List Tri):TU:=(T.filter fun t=>decide (lo2 t.1=lo2 t.2.1)).map tXZ
section
variable {o : TU} {A B : List Par} {T : List Tri} {f g : (Nat -> Bool) -> Bool}
theorem Dk {n:Nat}{ds:TN}(hD:DOk n ds o)(hl:3<=ds.length)(hod:(o.getD 0 []).length=2){gone:Tg}(hg:Tells o [2,0,1] (·∈T.map tN3) g)(hgo:∀v,gone v=true↔v∈o.getD 0 []):Tells o [2,1] (·∈T.map tXZ) (exF gone g):=by
 refine(hg.ex3 hD (by omega) (by omega) (by omega) (by decide) (by decide) hod hgo).iff fun r=>?_
 simp only[A_,tN3,tXZ,List.cons.injEq,and_true]
 constructor
 ·rintro⟨x,v,y,hv,rfl,t,ht,e1,e2,e3⟩
  exact⟨t,ht,by rw[e1,e3]⟩
 ·rintro⟨t,ht,rfl⟩
  exact⟨_,_,_,vd t.2.1,rfl,t,ht,rfl,rfl,rfl⟩
theorem Rc {n:Nat}{ds:TN}(hD:DOk n ds o)(hl:3<=ds.length)(hod:(o.getD 0 []).length=2){gone:Tg}{v:Nat}(hg:Tells o [2,0,1] (·∈T.map tN3) g)(hgo:∀v,gone v=true↔v∈o.getD 0 []):Tells o [2,1] (·∈fq v T) (exF gone fun x=>g x && gZ o [0] [v] x):=by
 have hp:Tells o [2,0,1] (fun r=>r∈T.map tN3/\r[1]?=some v) (fun x=>g x && gZ o [0] [v] x):=fun x=>by
  rw[Bool.and_eq_true,hg x,kS (by rfl)]
  simp
 refine(hp.ex3 hD (by omega) (by omega) (by omega) (by decide) (by decide) hod hgo).iff fun r=>?_
 simp only[A_,tN3,tXZ,fq,List.cons.injEq,and_true,List.mem_filter,decide_eq_true_eq]
 constructor
 ·rintro⟨x,w,y,hv,rfl,⟨t,ht,e1,e2,e3⟩,e4⟩
  simp at e4
  exact⟨t,⟨ht,by rw[e2,e4]⟩,by rw[e1,e3]⟩
 ·rintro⟨t,⟨ht,e⟩,rfl⟩
  exact⟨_,_,_,vd t.2.1,rfl,⟨t,ht,rfl,rfl,rfl⟩,by simp[e]⟩
theorem QW {n:Nat}{ds:TN}(hD:DOk n ds o)(hl:3<=ds.length)(hod:(o.getD 0 []).length=2){gone:Tg}(hg:Tells o [2,0,1] (·∈T.map tN3) g)(hgo:∀v,gone v=true↔v∈o.getD 0 []):Tells o [2,1] (·∈fp T) (exF gone fun x=>g x && QX (o.getD 2 []) (o.getD 0 []) 4 x):=by
 have hp:Tells o [2,0,1] (fun r=>r∈T.map tN3/\r[0]?=r[1]?) (fun x=>g x && QX (o.getD 2 []) (o.getD 0 []) 4 x):=fun x=>by
  rw[Bool.and_eq_true,hg x]
  have h4:([2,0,1].map (vN o x))∈T.map tN3->vN o x 2<4:=fun h=>by
   obtain⟨t,ht,e⟩:=A_.1 h
   simp only[tN3,List.map_cons,List.map_nil,List.cons.injEq]at e
   rw[<- e.1];exact vd _
  simp only[QX,Bool.and_eq_true,decide_eq_true_eq]
  constructor
  ·rintro⟨a,b,c⟩;exact⟨a,by simpa [vN]using c⟩
  ·rintro⟨a,c⟩;exact⟨a,h4 a,by simpa [vN]using c⟩
 refine(hp.ex3 hD (by omega) (by omega) (by omega) (by decide) (by decide) hod hgo).iff fun r=>?_
 simp only[A_,tN3,tXZ,fp,List.cons.injEq,and_true,List.mem_filter,decide_eq_true_eq]
 constructor
 ·rintro⟨x,w,y,hv,rfl,⟨t,ht,e1,e2,e3⟩,e4⟩
  simp at e4
  exact⟨t,⟨ht,by rw[e2,e1,e4]⟩,by rw[e1,e3]⟩
 ·rintro⟨t,⟨ht,e⟩,rfl⟩
  exact⟨_,_,_,vd t.2.1,rfl,⟨t,ht,rfl,rfl,rfl⟩,by simp[e]⟩
end
end Go.Proofs.YtohnaepcgnbaiaaGreatDoor
