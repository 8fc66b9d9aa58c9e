/- Walks of functions that the claim reaches, and plain facts of them. Conditions: those in the statements. -/
import Derived.Test.YtohnaepcgnbaiaaGreatDoorJkEuj
import Derived.Test.YtohnaepcgnbaiaaGreatDoorJkFdj
import Derived.Test.YtohnaepcgnbaiaaGreatDoorJkErj
set_option linter.unusedSimpArgs false
set_option linter.unusedVariables false
set_option maxRecDepth 100000
namespace Go.Proofs.YtohnaepcgnbaiaaGreatDoor
open Go.RowKit
attribute [-go_sem] bJ cX bH bG aT cU cT
theorem SCalls.frz0 {P:Program}{s:St}{f:FuncId}{xs:List VV}{Q:SEnd->St->Prop}
  (h:SCalls P f xs s fun e t=>∃(g n:Nat) (T:TypeId) (ys:List VV),e=.ret (.mrw g n)/\t g=.row T 1 ys/\ys.length=n/\Q (.ret (.lst (ys.map fun y=>[y]) .no)) (t.set g .free)):SCalls P f xs s Q:=by
 intro w0 G w vs hS hR
 refine(h w0 G w vs hS hR).mono ?_
 rintro e w' ⟨G',s',x,hG,hS',hE,g,n,T,ys,rfl,hg,hn,hq⟩
 obtain⟨G2,hle,hS2,hK,_⟩:=hS'.frzR hg
 refine⟨G2,_,_,hG.trans hle,hS2,?_,hq⟩
 cases e with
 |returned v=>exact R.frz hn hK (R.mono hle hE)
 |_=>exact hE
theorem tm (l:List Nat):(dv l).map (fun y=>[y])=ak l:=by simp[dv,ak,Function.comp_def]
set_option maxHeartbeats 4000000 in
theorem Fy (s:St)(b:Nat)(X:VV)(l:List Nat)(o:Own)(r:VV)(hb:s b=.obj 30 [X,.lst (ak l) o,r])(hl:l.length<=1000000000)(d:Nat):SRet Tryz.prog 43 [.int .i64 (d:Int),.ptr b 0] s (.bool (decide (d∈l))) s:=by
 have w:=rR l o d hl s
 generalize ak l=V at *
 refine am Tryz.func43 rfl Tryz.ntmps43 rfl fun Q hQ hQe=>?_
 (repeat'(first|refine Ctl ?_|((with_reducible refine k_ hK ?_);clear hK hE K E)|(((with_reducible first|refine ab fun K E hK hE=>?_|refine ae tL (w) ?_))<;>(try simp(disch:=omega) only[go_sem,seval, *]))))
 all_goals(refine aq Gd hQ ?_)
 all_goals exact⟨_,_,Wk.refl _,Fg.refl _,rfl,rfl⟩
theorem zf (s:St)(gb b:Nat)(D:List Nat)(X r:VV)(l:List Nat)(hg:s gb=.row 3 1 (dv D))(hb:s b=.obj 30 [X,.lst (ak l) .no,r])(hl:l.length<=1000000000)(hD:D.length<=1000000000) :
  SRet Tryz.prog 42 [.mrw gb D.length,.fn 43 [.ptr b 0]] s (.lst (ak (c7 (fun d=>decide (d∈l)) D)) .no) (s.set gb .free):=by
 have hne:b≠gb:=fun e=>by rw[e,hg]at hb;cases hb
 refine SCalls.frz0 (SCalls.mono (h:=M9 s gb D hg hD Qh (fun d=>decide (d∈l)) fun R d hR=>Fy _ b X l .no r ((j_ _ _ hne).trans hb) hl d) ?_)
 rintro w u ⟨rfl,rfl⟩
 exact⟨gb,_,3,_,rfl,q_ _ _ _,oz,by rw[tm],by rw[St.set_set]⟩
def aK (A:List (List UInt8))(D:List Nat)(A2:List (List UInt8)):List Nat:=A2.map fun a=>D.getD (ixA a A).toNat 0
theorem qr {A:List (List UInt8)}{D:List Nat}{A2:List (List UInt8)}{i k d:Nat}{a:List UInt8}(h:A2[i]?=some a)(hk:ixA a A=(k:Int))(hd:D[k]?=some d):aK A D (A2.take (i+1))=aK A D (A2.take i)++[d]:=by
 rw[aK,List.take_add_one,h,List.map_append]
 simp[aK,hk,List.getD_eq_getElem?_getD,hd]
theorem dp {A:List (List UInt8)}{D:List Nat}{A2:List (List UInt8)}:(aK A D A2).length=A2.length:=by simp[aK]
structure KI (u1 S:St) (b8 bm:Nat) (SA:VV) (e:List (List UInt8)) (l:List Nat):Prop where
 fr:∀z,u1 z≠.free->S z=u1 z
 o8:(l=[]/\S b8=.obj 30 [SA,.raw (.slice none 0 0),.int .i64 0])\/∃g,S b8=.obj 30 [SA,.mrw g l.length,.int .i64 0]/\S g=.row 3 1 (dv l)/\u1 g=.free
 mt:S bm=.map (mpV bP (g9 e))
 f:u1 b8=.free/\u1 bm=.free
section
variable {u1 S : St} {b8 bm bM g : Nat} {SA : VV} {e e' : List (List UInt8)} {l : List Nat}
theorem KI.ne (h:KI u1 S b8 bm SA e l):¬ b8=bm/\¬ bm=b8:=by
 have key:¬ b8=bm:=fun e=>by
  have:=h.mt
  rw[<- e]at this
  rcases h.o8 with ⟨_,h1⟩|⟨g,h1,_⟩<;>rw[h1]at this<;>cases this
 exact⟨key,fun e=>key e.symm⟩
theorem KI.put (h:KI u1 S b8 bm SA e l):KI u1 (S.set bm (.map (mpV bP (g9 e')))) b8 bm SA e' l:=by
 refine⟨fun z hz=>(j_ _ _ fun e=>hz (by rw[e];exact h.f.2)).trans (h.fr z hz),?_,q_ _ _ _,h.f⟩
 rcases h.o8 with ⟨h1,h2⟩|⟨g,h1,h2,h3⟩
 ·exact .inl ⟨h1,(j_ _ _ h.ne.1).trans h2⟩
 ·exact .inr ⟨g,(j_ _ _ h.ne.1).trans h1,(j_ _ _ fun e=>by have:=h.mt;rw[<- e,h2]at this;cases this).trans h2,h3⟩
theorem KI.app0 (h:KI u1 S b8 bm SA e [])(hM:S bM=.free)(d:Nat):KI u1 ((S.set bM (.row 3 1 [.int .i64 (d:Int)])).set b8 (.obj 30 [SA,.mrw bM 1,.int .i64 0])) b8 bm SA e [d]:=by
 have h8:S b8≠.free:=by rcases h.o8 with ⟨_,h1⟩|⟨g,h1,_⟩<;>rw[h1]<;>simp
 have n1:=nef hM h8
 have n2:=nef hM (a:=bm) (by rw[h.mt];simp)
 refine⟨fun z hz=>?_,.inr ⟨bM,q_ _ _ _,(j_ _ _ n1.2).trans (q_ _ _ _),frB h.fr hM⟩,(j_ _ _ h.ne.2).trans ((j_ _ _ n2.1).trans h.mt),h.f⟩
 rw[j_ _ _ (fun e=>hz (by rw[e];exact h.f.1)),j_ _ _ (nef hM (by rw[h.fr z hz];exact hz)).1,h.fr z hz]
theorem KI.app (h:KI u1 S b8 bm SA e l)(hg8:S b8=.obj 30 [SA,.mrw g l.length,.int .i64 0])(hg:S g=.row 3 1 (dv l))(hgf:u1 g=.free)(hM:(S.set g .free) bM=.free)(d:Nat):KI u1 (((S.set g .free).set bM (.row 3 1 (dv l++[.int .i64 (d:Int)]))).set b8 (.obj 30 [SA,.mrw bM (l.length+1),.int .i64 0])) b8 bm SA e (l++[d]):=by
 have hbM:∀z,S z≠.free->¬ z=g->¬ z=bM:=fun z hz hn e=>by subst e;rw[j_ _ _ hn]at hM;exact hz hM
 have n8:¬ b8=g:=fun e=>by rw[e,hg]at hg8;cases hg8
 have nm:¬ bm=g:=fun e=>by have:=h.mt;rw[e,hg]at this;cases this
 have h8:=hbM b8 (by rw[hg8];simp) n8
 have hm:=hbM bm (by rw[h.mt];simp) nm
 refine⟨fun z hz=>?_,.inr ⟨bM,by rw[q_];simp,by rw[j_ _ _ (fun e=>h8 e.symm),q_];simp,?_⟩,(j_ _ _ h.ne.2).trans ((j_ _ _ hm).trans ((j_ _ _ nm).trans h.mt)),h.f⟩
 ·have zg:¬ z=g:=fun e=>hz (by rw[e];exact hgf)
  rw[j_ _ _ (fun e=>hz (by rw[e];exact h.f.1)),j_ _ _ (hbM z (by rw[h.fr z hz];exact hz) zg),j_ _ _ zg,h.fr z hz]
 ·by_cases e:u1 bM=.free
  ·exact e
  ·have h1:=h.fr bM e
   exact absurd rfl (hbM bM (by rw[h1];exact e) fun e2=>e (by rw[e2];exact hgf))
end
end Go.Proofs.YtohnaepcgnbaiaaGreatDoor
namespace Go.Proofs.YtohnaepcgnbaiaaGreatDoor
open Go.RowKit
attribute [-go_sem] bJ cX bH bG aT cU cT
set_option maxHeartbeats 16000000 in
theorem Fo {s:St}{KK:OB}{x m q c n B N:Nat}{ns:List Tr}{ds:List (List UInt8×Nat)}{o:List (List Nat)}(hn64:n<=64)(hM:RMem s KK x m q c n B ns ds o)(hD:DOk n ds o){ff:(Nat->Bool)->Bool}(A:List (List UInt8))(o1:Own)(D:List Nat)(o2:Own)(hR:Rel4 ds o A D)(hDne:D≠[])(hf:DepF (aj o D) ff)(mf:treeT n ff∈ns)
  (A2:List (List UInt8)) (o3:Own) (h2:bi A2) (hne2:A2≠[]) (hsub:∀a,a∈A2->a∈A) (hc:CntN ns N) (hB:N+D.length * (20+2 ^ (2 * D.length))+((aj o D).length+2) * 2 ^ (aj o D).length<=B) :
  SCalls Tryz.prog 14 [.ptr x 0,.agg [.lst (az A) o1,.lst (ak D) o2,.int .i64 (ixF n ns ff:Nat)],.lst (az A2) o3] s fun w u=>∃a:gI,w=.ret (.tup [.agg [.lst (az A2) .no,.lst (ak (aK A D A2)) .no,.int .i64 (ixF n a.2.2.2 (exF (fun v=>decide (v∈aj o (c7 (fun d=>decide (d∈aK A D A2)) D))) ff):Nat)],.int .i64 0])/\u=a.1/\RelR s KK x m q c n B ns ds o (N+D.length * (20+2 ^ (2 * D.length))+((aj o D).length+2) * 2 ^ (aj o D).length) (exF (fun v=>decide (v∈aj o (c7 (fun d=>decide (d∈aK A D A2)) D))) ff) a:=by
 have hl8:=hR.l8
 have h28:=h2.2.2
 have wm:=fun(u:St) (hu:∀z,s z≠.free->u z=s z)=>po hn64 (hM.more hu) hD [[.lst (az A) o1,.lst (ak D) o2,.int .i64 ((ixF n ns ff:Nat):Int)]] .full (fun z hz=>by
  rw[a_]at hz
  exact⟨⟨A,D,treeT n ff⟩,o1,o2,hz,hR.ok hD hf mf⟩) (by simp)
 have wix:=fun(u:St) (a:List UInt8)=>xW A o1 a (by have:=hR.nm.2.2;omega) u
 have wcs:=fun u=>iA u A2 o3 (by omega)
 have wcm:=fun u=>lF u D o2 hDne (by omega)
 have hA2l:=dj A2
 have hDl:=natsL_len (ks:=D)
 have HSA2:=o_ (fun(i:Nat) (a:List UInt8) (e:A2[i]?=some a)=>iD e)
 have HSD:=o_ (fun(i:Nat) (d:Nat) (e:D[i]?=some d)=>aH e)
 have WM:=o_ wm
 have WIX:=o_ wix
 have WCS:=o_ wcs
 have WCM:=o_ wcm
 have HM:=o_ hM
 have HMF:=o_ mf
 have HC:=o_ hc
 have HR:=o_ hR
 have H2:=o_ h2
 have HSUB:=o_ hsub
 have HB:=o_ hB
 have HF:=o_ hf
 have HDD:=o_ hD
 clear wm wix wcs wcm hM mf hc hR h2 hsub hB hf hD
 generalize hkf:ixF n ns ff=kf at *
 have HKF:=o_ hkf
 clear hkf
 generalize az A=SA at *
 generalize az A2=SB at *
 generalize hV:ak D=V at *
 have HV:=o_ hV
 clear hV
 refine am Tryz.func14 rfl Tryz.ntmps14 rfl fun Q hQ hQe=>?_
 (repeat'(first|refine Ctl ?_|((with_reducible refine k_ hK ?_);clear hK hE K E)|((first|(with_reducible refine ab fun K E hK hE=>?_)|((with_reducible refine au (fun b hb=>?_));(repeat(obtain⟨_,hb⟩:=hb))))<;>(try simp(disch:=omega) only[go_sem,seval, *]))))
 rename_i b4 hb4 n1 n2
 obtain⟨b6,hb6e⟩:∃z,z=b:=⟨_,rfl⟩
 subst hb6e
 have hb6:s b6=.free:=hb
 obtain⟨u0,hu0⟩:∃u,u=(s.set b4 (.obj 30 [.lst SA o1,.lst V o2,.int .i64 (kf:Int)])).set b6 (.obj 30 [.lst [] .full,.lst [] .full,.int .i64 0]):=⟨_,rfl⟩
 rw[<- hu0]
 have g0:∀z,s z≠.free->u0 z=s z:=fun z hz=>by rw[hu0,j_ _ _ (nef hb6 hz).1,j_ _ _ (nef hb4 hz).1]
 have k4:u0 b4=.obj 30 [.lst SA o1,.lst V o2,.int .i64 (kf:Int)]:=by rw[hu0,j_ _ _ (by assumption),q_]
 have k6:u0 b6=.obj 30 [.lst [] .full,.lst [] .full,.int .i64 0]:=by rw[hu0,q_]
 have wm:=WM.out u0 g0
 have G0:=o_ (And.intro g0 hb6)
 clear hu0 hb g0 WM hb4 hb6 n1 n2
 refine ao oY wm (fun a h=>?_)
 obtain⟨u1,m1⟩:=a
 obtain⟨M1,K1⟩:=h
 dsimp only at M1 K1 ⊢
 have R1:=RelR.win M1 K1 HMF.out HC.out
 have j4:=R1.own (HM.out.more G0.out.1) k4 (by decide) (by decide) (by decide) (by decide)
 have j6:=R1.own (HM.out.more G0.out.1) k6 (by decide) (by decide) (by decide) (by decide)
 have R2:RelR s KK x m q c n B ns ds o N ff (u1,KK,m1,ns):=(RelR.win (HM.out.more G0.out.1) (.new G0.out.1) HMF.out HC.out).then R1
 dsimp only at j4 j6
 have HR2:=o_ R2
 have HM1:=o_ M1
 have hl4:u1 b4≠.free:=by rw[j4];simp
 have hl6:u1 b6≠.free:=by rw[j6];simp
 clear wm M1 K1 R1 R2 k4 k6
 simp only[go_sem,seval]
 (repeat'(first|refine Ctl ?_|((with_reducible refine k_ hK ?_);clear hK hE K E)|((with_reducible refine ah (fun h=>?_) (fun h=>?_))<;>(try(exfalso;assumption)))|((first|(with_reducible first|refine ab fun K E hK hE=>?_|refine ae lV (WCS.out _) ?_)|((with_reducible refine au (fun b hb=>?_));(repeat(obtain⟨_,hb⟩:=hb));(try(obtain⟨_,_⟩:=nef hb hl4;obtain⟨_,_⟩:=nef hb hl6))))<;>(try simp(disch:=omega) only[go_sem,seval, *]))))
 rename_i b8 hb8 _ _ _ _ n1 n2 _ _ _ _
 obtain⟨bm,hbme⟩:∃z,z=b:=⟨_,rfl⟩
 subst hbme
 have hbm:u1 bm=.free:=hb
 obtain⟨S0,hS0⟩:∃u,u=(u1.set b8 (.obj 30 [.lst SB .no,.lst [] .full,.int .i64 0])).set bm (.map []):=⟨_,rfl⟩
 rw[<- hS0]
 have k8:S0 b8=.obj 30 [.lst SB .no,.lst [] .full,.int .i64 0]:=by rw[hS0,j_ _ _ n2,q_]
 have n8m:¬ b8=bm:=n2
 have f0:∀z,u1 z≠.free->S0 z=u1 z:=fun z hz=>by rw[hS0,j_ _ _ (nef hbm hz).1,j_ _ _ (nef hb8 hz).1]
 have m0:S0 bm=.map (mpV bP (g9 [])):=by rw[hS0,q_];rfl
 refine Cj (GS.rawnil (i:=1) k8 rfl) ?_
 simp only[List.set_cons_succ,List.set_cons_zero]
 have hI:KI u1 (S0.set b8 (.obj 30 [.lst SB .no,.raw (.slice none 0 0),.int .i64 0])) b8 bm (.lst SB .no) (A2.take 0) (aK A D (A2.take 0)):=
  ⟨fun z hz=>(j_ _ _ (nef hb8 hz).1).trans (f0 z hz),.inl ⟨rfl,q_ _ _ _⟩,(j_ _ _ fun e=>n8m e.symm).trans m0,hb8,hbm⟩
 have HI:=o_ hI
 clear hS0 k8 n8m f0 m0 hI hb hb8 hbm n1 n2 hl6
 refine aY (fun f env s'=>∃(i:Nat),i<=A2.length/\f+i=A2.length/\Hid (KI u1 s' b8 bm (.lst SB .no) (A2.take i) (aK A D (A2.take i)))/\env 0=.ptr x 0/\env 4=.ptr b4 0/\env 6=.ptr b6 0/\env 8=.ptr b8 0/\env 9=.mp bm/\env 26=.lst SB o3/\env 27=.int .i64 A2.length/\env 28=.int .i64 i) A2.length
  ⟨0,by omega,by omega,HI,ac,ac,ac,ac,ac,ac,(by(rw[<- hA2l];((try simp(disch:=assumption) only[go_sem,seval, *])<;>rfl))),ac⟩ ?_
 clear HI
 rintro f env s' ⟨i,hi,hfi,HI,e0,e4,e6,e8,e9,e26,e27,e28⟩
 by_cases hlt:i<A2.length
 ·obtain⟨a,ha⟩:∃a,A2[i]?=some a:=⟨_,m_ hlt⟩
  have hxa:=HSA2.out i a ha
  have J:=HI.out
  have p4:=(J.fr b4 hl4).trans j4
  have htk:A2.take (i+1)=A2.take i++[a]:=by rw[List.take_add_one,ha];rfl
  have hno:a∉A2.take i:=fun hin=>by
   have h1:(A2.take (i+1)).Nodup:=H2.out.1.sublist (List.take_sublist _ _)
   rw[htk,List.nodup_append]at h1
   exact h1.2.2 a hin a (by simp) rfl
  have hpt:=nA hno
  rw[<- htk]at hpt
  have hlk:(lkA a (g9 (A2.take i))).getD false=false:=by rw[nB hno];rfl
  obtain⟨k,hix,hk⟩:∃k:Nat,ixA a A=(k:Int)/\A[k]?=some a:=by
   rcases lk a A with ⟨_,h⟩|h
   ·exact absurd (HSUB.out a (y_ ha)) h
   ·exact h
  have wix:=WIX.out s' a
  rw[hix]at wix
  obtain⟨d,hd⟩:∃d,D[k]?=some d:=⟨_,m_ (by have h1:=HR.out.ln;have:=(x_.1 hk).1;omega)⟩
  have hvd:=HSD.out k d hd
  have hka:=qr (A:=A) (D:=D) ha hix hd
  have hkl:(aK A D (A2.take i)).length<=8:=by rw[dp,r_];omega
  have mt:=J.mt
  have HKA:=o_ hka
  have HJ:=o_ J
  have hk0:¬ (k:Int)<0:=by omega
  clear J htk hno hix hk hd hka ha HI
  generalize aK A D (A2.take i)=Dp at *
  (repeat'(first|(with_reducible refine aR 12 ?_)|refine Ctl ?_|((with_reducible refine k_ hK ?_);clear hK hE K E)|((with_reducible refine ah (fun h=>?_) (fun h=>?_))<;>(try(exfalso;assumption)))|(((with_reducible first|refine ab fun K E hK hE=>?_|refine ae kB (wix) ?_))<;>(try simp(disch:=omega) only[go_sem,seval,hA2l,hxa,hlk,hpt,hk0, *]))))
  unfold bC
  have J1:=HJ.out.put (e':=A2.take (i+1))
  refine bE fun S1 hS1=>?_
  rw[<- hS1]at J1
  have p4:=(J1.fr b4 hl4).trans j4
  have HJ1:=o_ J1
  clear hS1 mt wix hpt hlk HJ
  rcases J1.o8 with ⟨hnil,o8⟩|⟨g,o8,hg,hgf⟩
  ·subst hnil
   have h8:S1 b8≠.free:=by rw[o8];simp
   clear J1
   (repeat'(first|refine Ctl ?_|(with_reducible first|(refine k_ hK ?_;clear hK hE K E)|(refine k_ hKh ?_;clear hKh Kh)|(refine k_ hKb (aC ?_);clear hKb Kb)|refine ax 12 [([0,1,2,3,4,5,6,7],8,[[]]),([9],10,[[],[]])] [] hQe fun K E hK hE=>?_)|((first|(with_reducible first|refine ab fun K E hK hE=>?_|refine ay fun Kh hKh=>?_|refine aG fun Kh hKh=>?_|refine aB fun Kb hKb=>?_)|((with_reducible refine fG (fun bM hM=>?_));(try(obtain⟨_,_⟩:=nef hM (a:=b8) (by exact h8)))))<;>(try simp(disch:=omega) only[go_sem,seval,hA2l,hvd,List.flatten_cons,List.flatten_nil,List.append_nil, *]))))
   have H7:=HJ1.out.app0 hM d
   rw[show [d]=[]++[d] from rfl,<- HKA.out]at H7
   all_goals exact⟨f - 1,by omega,i+1,by omega,by omega,o_ H7,ac,ac,ac,ac,ac,ac,ac,ac⟩
  ·have n8g:¬ b8=g:=fun e=>by rw[e,hg]at o8;cases o8
   have n4g:¬ b4=g:=fun e=>by rw[e,hg]at p4;cases p4
   have hDpl:(List.map (fun(k:Nat)=>VV.int .i64 (k:Int)) Dp).length=Dp.length:=z_ _
   clear J1
   (repeat'(first|refine Ctl ?_|(with_reducible first|(refine k_ hK ?_;clear hK hE K E)|(refine k_ hKh ?_;clear hKh Kh)|(refine k_ hKb (aC ?_);clear hKb Kb)|refine ax 12 [([0,1,2,3,4,5,6,7],8,[[]]),([9],10,[[],[]])] [] hQe fun K E hK hE=>?_)|((first|(with_reducible first|refine ab fun K E hK hE=>?_|refine ay fun Kh hKh=>?_|refine aG fun Kh hKh=>?_|refine aB fun Kb hKb=>?_)|((with_reducible refine cJ (fun bM hM=>?_));(try(obtain⟨_,_⟩:=nef hM (a:=b8) (by rw[j_ _ _ n8g,o8];simp)))))<;>(try simp(disch:=omega) only[go_sem,seval,hA2l,hvd,hDpl,List.flatten_cons,List.flatten_nil,List.append_nil, *]))))
   have H7:=HJ1.out.app o8 hg hgf hM d
   rw[<- HKA.out]at H7
   all_goals exact⟨f - 1,by omega,i+1,by omega,by omega,o_ H7,ac,ac,ac,ac,ac,ac,ac,ac⟩
 ·have hin:i=A2.length:=by omega
  have J:=HI.out
  rw[hin,b_]at J
  have hA2p:0<A2.length:=List.length_pos_iff.2 hne2
  have hkl:(aK A D A2).length=A2.length:=dp
  have hnl:¬ (i:Int)<(A2.length:Int):=by omega
  rcases J.o8 with ⟨hnil,_⟩|⟨g,o8,hg,hgf⟩
  ·exfalso;rw[hnil]at hkl;simp at hkl;omega
  have HJ:=o_ J
  clear HI J
  (repeat'(first|(with_reducible refine aR 14 ?_)|refine Ctl ?_|((with_reducible refine k_ hK ?_);clear hK hE K E)|((with_reducible refine ah (fun h=>?_) (fun h=>?_))<;>(try(exfalso;omega)))|(((with_reducible refine ab fun K E hK hE=>?_))<;>(try simp(disch:=omega) only[go_sem,seval,hA2l,hnl, *]))))
  unfold bC
  refine lD (GSg.frz (i:=1) o8 rfl hg (z_ _)) ?_
  simp only[List.set_cons_zero,List.set_cons_succ]
  rw[tm]
  refine bE fun SF hSF=>?_
  have k8:SF b8=.obj 30 [.lst SB .no,.lst (ak (aK A D A2)) .no,.int .i64 0]:=by rw[hSF,q_]
  have fr:∀z,u1 z≠.free->SF z=u1 z:=fun z hz=>by
   rw[hSF,j_ _ _ (fun e=>hz (by rw[e];exact HJ.out.f.1)),j_ _ _ (fun e=>hz (by rw[e];exact hgf)),HJ.out.fr z hz]
  have HK:=o_ (show aK A D A2=aK A D A2 from rfl)
  have hKl8:(aK A D A2).length<=8:=by rw[hkl];exact h28
  generalize hKD:aK A D A2=KD at *
  have HKD:=o_ hKD
  have MF:=HM1.out.more fr
  have wc:=xY MF HDD.out SA o1 D o2 HR.out.d4 hl8 HF.out HMF.out HC.out (by have:=HB.out;omega)
  rw[HV.out,HKF.out]at wc
  have p4:=(fr b4 hl4).trans j4
  have hR0:=HR2.out.new fr
  have HMF2:=o_ MF
  have HR0:Hid (RelR s KK x m q c n B ns ds o N ff (SF,KK,m1,ns)):=o_ hR0
  have HFR:=o_ fr
  have hf8:u1 b8=.free:=HJ.out.f.1
  have HF8:=o_ hf8
  clear hSF fr MF hR0 hg hgf o8 HJ hKD HK hkl hf8
  (repeat'((((with_reducible refine ab fun K E hK hE=>?_))<;>(try simp(disch:=omega) only[go_sem,seval, *]))))
  refine ao GU wc (fun a h=>?_)
  obtain⟨u3,K3,ns3⟩:=a
  try dsimp only at h
  have HR3:Hid (RelR s KK x m q c n B ns ds o (N+D.length * (20+2 ^ (2 * D.length))) ff (u3,K3,m1,ns3)):=o_ (HR0.out.then (RelR.op HMF2.out h))
  have l4:=(h.k.out b4 (by rw[p4];simp) (HMF2.out.C.om.types p4 (by decide) (by decide) (by decide))).trans p4
  have p6:=(HFR.out b6 (by rw[j6];simp)).trans j6
  have l6:=(h.k.out b6 (by rw[p6];simp) (HMF2.out.C.om.types p6 (by decide) (by decide) (by decide))).trans p6
  have l8:=(h.k.out b8 (by rw[k8];simp) (HMF2.out.C.om.types k8 (by decide) (by decide) (by decide))).trans k8
  have e3:ixF n ns3 ff=kf:=(bn h.pre HMF.out).2.trans HKF.out
  have HM3:=o_ h.mem
  have HC3:=o_ h.cnt
  obtain⟨a3,hx3⟩:=HR3.out.M.xf
  unfold spC at hx3
  have HE3:=o_ e3
  dsimp only at l4 l6 l8 hx3 ⊢
  clear h wc p4 p6 k8 e3
  generalize szC ds=SZ at *
  simp only[go_sem,seval,l4,e4]
  rw[v_ _ _ _ l4]
  (repeat'(first|refine Ctl ?_|(with_reducible first|(refine k_ hK ?_;clear hK hE K E)|(refine k_ hKh ?_;clear hKh Kh)|refine ax 17 [([0,1,2,3,4,5,7],6,[[0,1,2,3,7]]),([],8,[[],[0,1,2,3]]),([],9,[[],[],[]])] [10,11,12,13,14] hQe fun K E hK hE=>?_)|((with_reducible refine ah (fun h=>?_) (fun h=>?_))<;>(try(exfalso;assumption)))|(((with_reducible first|refine ab fun K E hK hE=>?_|refine ay fun Kh hKh=>?_|refine aB fun Kb hKb=>?_))<;>(try simp(disch:=omega) only[go_sem,seval, *]))))
  refine ao ft (WCM.out _) (fun a h=>?_)
  obtain⟨u5,g⟩:=a
  obtain⟨hgf,hu5⟩:=h
  dsimp only at hgf hu5 ⊢
  have f5:∀z,u3 z≠.free->u5 z=u3 z:=fun z hz=>by rw[hu5,j_ _ _ (nef hgf hz).1]
  have pg:u5 g=.row 3 1 (dv D):=by rw[hu5,q_]
  have p8:=(f5 b8 (by rw[l8];simp)).trans l8
  have wd:=zf u5 g b8 D (.lst SB .no) (.int .i64 0) KD pg p8 (by omega) (by omega)
  obtain⟨u6,hu6⟩:∃z,z=u5.set g .free:=⟨_,rfl⟩
  rw[<- hu6]at wd
  have f6:∀z,u3 z≠.free->u6 z=u3 z:=fun z hz=>by rw[hu6,j_ _ _ (nef hgf hz).1,f5 z hz]
  have hkeep:∀d,d∈c7 (fun d=>decide (d∈KD)) D->d∈D:=fun d hd=>(List.mem_filter.1 hd).1
  have M6:=HR3.out.M.more f6
  have wv:=gK M6.C HDD.out (c7 (fun d=>decide (d∈KD)) D) .no (fun d hd=>HR.out.d4.lt d (hkeep d hd)) (by have:=qs (p:=fun d=>decide (d∈KD)) (l:=D);omega)
  have hkn:(c7 (fun d=>decide (d∈KD)) D).Nodup:=HR.out.nd.sublist List.filter_sublist
  rw[if_pos hkn]at wv
  have hKs:=gn HDD.out (ks:=c7 (fun d=>decide (d∈KD)) D) (fun d hd=>HR.out.d4.lt d (hkeep d hd))
  have hKl:=qs (p:=fun d=>decide (d∈KD)) (l:=D)
  have we:=y8 (vs:=aj o (c7 (fun d=>decide (d∈KD)) D)) M6.C.om M6.C.qo HF.out (aJ HDD.out HR.out.d4.lt) HM3.out .no (cr HDD.out hkn (fun d hd=>HR.out.d4.lt d (hkeep d hd))) (aJ HDD.out (fun d hd=>HR.out.d4.lt d (hkeep d hd))) (by omega) HC3.out HB.out
  dsimp only at we
  rw[HE3.out]at we
  have px:=(f6 x HR3.out.M.xl).trans hx3
  have q4:=(f6 b4 (by rw[l4];simp)).trans l4
  have q6:=(f6 b6 (by rw[l6];simp)).trans l6
  have q8:=(f6 b8 (by rw[l8];simp)).trans l8
  have px5:=(f5 x HR3.out.M.xl).trans hx3
  have HM6:=o_ M6
  have HR6:Hid (RelR s KK x m q c n B ns ds o (N+D.length * (20+2 ^ (2 * D.length))) ff (u6,K3,m1,ns3)):=o_ (HR3.out.new f6)
  unfold OpFC at we
  obtain⟨GF,hGF⟩:∃z,z=exF (fun v=>decide (v∈aj o (c7 (fun d=>decide (d∈KD)) D))) ff:=⟨_,rfl⟩
  rw[<- hGF]at we
  have HGF:=o_ hGF
  clear hu5 hu6 f5 f6 hgf M6 hkeep hkn hKs hKl hGF p8 pg
  generalize ak (aj o (c7 (fun d=>decide (d∈KD)) D))=VG at *
  generalize ak (c7 (fun d=>decide (d∈KD)) D)=VK at *
  generalize ak KD=VD at *
  simp only[go_sem,seval]
  (repeat'(first|refine Ctl ?_|(with_reducible first|(refine k_ hK ?_;clear hK hE K E)|(refine k_ hKh ?_;clear hKh Kh)|(refine k_ hKb (aC ?_);clear hKb Kb)|refine ax 18 [([0,1,2,3,4,5,6],7,[[]]),([8,9,10,11],12,[[10],[]])] [13] hQe fun K E hK hE=>?_)|(((with_reducible first|refine ae Qi (wd) ?_|refine ae qH (wv) ?_|refine ay fun Kh hKh=>?_|refine aG fun Kh hKh=>?_|refine aB fun Kb hKb=>?_))<;>(try simp(disch:=omega) only[go_sem,seval, *]))))
  refine ao Qg we (fun a h=>?_)
  obtain⟨u7,K7,ns7⟩:=a
  try dsimp only at h
  have HR7:Hid (RelR s KK x m q c n B ns ds o (N+D.length * (20+2 ^ (2 * D.length))+((aj o D).length+2) * 2 ^ (aj o D).length) GF (u7,K7,m1,ns7)):=o_ (HR6.out.then (RelR.op HM6.out h))
  have r6:=(h.k.out b6 (by rw[q6];simp) (HM6.out.C.om.types q6 (by decide) (by decide) (by decide))).trans q6
  have r8:=(h.k.out b8 (by rw[q8];simp) (HM6.out.C.om.types q8 (by decide) (by decide) (by decide))).trans q8
  have HG8:Hid (s b8≠.free->kF KK x m b8):=o_ fun e=>Classical.byContradiction fun hk=>e ((HR2.out.k.out b8 e hk).symm.trans HF8.out)
  have n68:¬ b6=b8:=fun e=>by rw[e,HF8.out]at j6;cases j6
  have n86:¬ b8=b6:=fun e=>n68 e.symm
  dsimp only at r6 r8 ⊢
  generalize hkp:ixF n ns7 GF=kp at *
  have HKP:=o_ hkp
  clear h we wd wv l4 l6 l8 q4 q6 q8 px px5 hx3 hkp
  simp only[go_sem,seval,r8]
  (repeat'(first|refine Ctl ?_|(with_reducible first|(refine k_ hK ?_;clear hK hE K E)|(refine k_ hKh ?_;clear hKh Kh)|(refine k_ hKb (aC ?_);clear hKb Kb))|((with_reducible refine ah (fun h=>?_) (fun h=>?_))<;>(try(exfalso;assumption)))|(((with_reducible first|refine ab fun K E hK hE=>?_|refine ay fun Kh hKh=>?_|refine aG fun Kh hKh=>?_|refine aB fun Kb hKb=>?_))<;>(try simp(disch:=omega) only[go_sem,seval, *]))))
  all_goals(refine aq Gw hQ ?_)
  all_goals refine⟨_,_,Wk.refl _,Fg.refl _,(St.set _ b6 _,K7,m1,ns7),?_,rfl,?_⟩
  ·have e:(ixF n ns7 (exF (fun v=>decide (v∈aj o (c7 (fun d=>decide (d∈KD)) D))) ff))=kp:=by rw[<- HGF.out];exact HKP.out
   show _=SEnd.ret (.tup [.agg [.lst SB .no,.lst VD .no,.int .i64 ((ixF n ns7 (exF (fun v=>decide (v∈aj o (c7 (fun d=>decide (d∈KD)) D))) ff):Nat):Int)],.int .i64 0])
   rw[e]
  ·rw[<- HGF.out]
   refine HR7.out.finG fun z hz=>?_
   by_cases e6:z=b6
   ·subst e6;exact .inr ⟨⟨_,r6⟩,fun e=>absurd G0.out.2 e⟩
   by_cases e8:z=b8
   ·subst e8;exact .inr ⟨⟨_,r8⟩,HG8.out⟩
   left
   rw[j_ _ _ e6,j_ _ _ e8]
end Go.Proofs.YtohnaepcgnbaiaaGreatDoor
namespace Go.Proofs.YtohnaepcgnbaiaaGreatDoor
open Go.RowKit
attribute [-go_sem] bJ cX bH bG aT cU cT
theorem RLaw.keep {s u:St}{K:OB}{x m q c:Nat}{ns:List Tr}{i N N':Nat}{A A2:List (List UInt8)}{D D' K':List Nat}(L:RLaw s u K x m q c ns i N){S S':List Nat->Prop}{f:(Nat->Bool)->Bool}{k:Nat}(hT:Tells (oR i) D S f)(hk:Nod ns f k)(o1 o2:Own)(hn:bi A)(hl:A.length=D.length)(hd:D.Nodup)(h4:∀d,d∈D->d<4)(hDne:D≠[])(o3:Own)(hn2:bi A2)(hne2:A2≠[])(hsub:∀a,a∈A2->a∈A)(hD':aK A D A2=D')(hK:c7 (fun d=>decide (d∈D')) D=K')(hS:Tells (oR i) D' S' (exF (fun v=>decide (v∈aj (oR i) K')) f))
  (hN:N+D.length * (20+2 ^ (2 * D.length))+(2 * D.length+2) * 2 ^ (2 * D.length)<=N') (hB:N'<=65536) :
  SCalls Tryz.prog 14 [.ptr x 0,.agg [.lst (az A) o1,.lst (ak D) o2,.int .i64 (k:Nat)],.lst (az A2) o3] u fun w u'=>∃a:tU,w=.ret (.tup [.agg (dM A2 D' a.1.2.2.2.2),.int .i64 0])/\u'=a.1.1/\ResT s u ns x q c i N' D' S' a:=by
 subst hD' hK
 have hvl:=dE L.i3 h4
 have h:=Fo (by omega) L.M L.D A o1 D o2 (L.r4 hn hl hd h4) hDne hT.dep hk.mem A2 o3 hn2 hne2 hsub L.n (by rw[hvl];omega)
 rw[hk.ix,hvl]at h
 refine SCalls.mono (h:=h) ?_
 rintro w u' ⟨a,rfl,rfl,h⟩
 exact⟨_,rfl,rfl,L.res h hN hS⟩
theorem Tells.rot {o:List (List Nat)}{a b c:Nat}{S:List Nat->Prop}{g:(Nat->Bool)->Bool}(h:Tells o [a,b,c] S g):Tells o [b,c,a] (fun r=>∃x y z,r=[y,z,x]/\S [x,y,z]) g:=fun v=>by
 rw[h v]
 simp only[List.map_cons,List.map_nil]
 constructor
 ·intro e;exact⟨_,_,_,rfl,e⟩
 ·rintro⟨x,y,z,e,hs⟩
  simp only[List.cons.injEq,and_true]at e
  obtain⟨rfl,rfl,rfl⟩:=e
  exact hs
theorem Tells.unrot {o:List (List Nat)}{a b c:Nat}{S:List Nat->Prop}{g:(Nat->Bool)->Bool}(h:Tells o [b,c,a] (fun r=>∃x y z,r=[y,z,x]/\S [x,y,z]) g):Tells o [a,b,c] S g:=fun v=>by
 rw[h v]
 simp only[List.map_cons,List.map_nil]
 constructor
 ·rintro⟨x,y,z,e,hs⟩
  simp only[List.cons.injEq,and_true]at e
  obtain⟨rfl,rfl,rfl⟩:=e
  exact hs
 ·intro e;exact⟨_,_,_,rfl,e⟩
theorem xv {o:List (List Nat)}{g:(Nat->Bool)->Bool}:exF (fun v=>decide (v∈aj o [])) g=g:=Bn fun v=>by simp[aj]
end Go.Proofs.YtohnaepcgnbaiaaGreatDoor
namespace Go.Proofs.YtohnaepcgnbaiaaGreatDoor
open Go.RowKit
attribute [-go_sem] bJ cX bH bG aT cU cT
set_option maxHeartbeats 16000000 in
theorem Fn {s:St}{KK:OB}{x m q c n B N:Nat}{ns:List Tr}{ds:List (List UInt8×Nat)}{o:List (List Nat)}(hn64:n<=64)(hM:RMem s KK x m q c n B ns ds o)(hD:DOk n ds o){ff fh:(Nat->Bool)->Bool}(A1:List (List UInt8))(o1:Own)(D1:List Nat)(o2:Own)(hR1:Rel4 ds o A1 D1)(hf:DepF (aj o D1) ff)(mf:treeT n ff∈ns)
  (A2:List (List UInt8)) (o3:Own) (D2:List Nat) (o4:Own) (hR2:Rel4 ds o A2 D2) (hh:DepF (aj o D2) fh) (mh:treeT n fh∈ns) (hsub:∀a,a∈A2->a∈A1) (hlen:A2.length=A1.length) (htn:(aK A1 D1 A2).Nodup) (ht:∀k,k∈aK A1 D1 A2->k∈D1)
  (hc:CntN ns N) (hB:N+((aj o D2).length+2) * 2 ^ (aj o D2).length<=B) :
  SCalls Tryz.prog 80 [.ptr x 0,.agg [.lst (az A1) o1,.lst (ak D1) o2,.int .i64 (ixF n ns ff:Nat)],.agg [.lst (az A2) o3,.lst (ak D2) o4,.int .i64 (ixF n ns fh:Nat)]] s fun w u=>∃a:gI,w=.ret (.tup [.int .i64 (ixF n a.2.2.2 (rnF (aX (aj o D2) (aj o (aK A1 D1 A2))) fh):Nat),.int .i64 0])/\u=a.1/\RelR s KK x m q c n B ns ds o (N+((aj o D2).length+2) * 2 ^ (aj o D2).length) (rnF (aX (aj o D2) (aj o (aK A1 D1 A2))) fh) a:=by
 have hl8:=hR1.l8
 have hl82:=hR2.l8
 have wm:=fun(u:St) (hu:∀z,s z≠.free->u z=s z)=>po hn64 (hM.more hu) hD [[.lst (az A1) o1,.lst (ak D1) o2,.int .i64 ((ixF n ns ff:Nat):Int)],[.lst (az A2) o3,.lst (ak D2) o4,.int .i64 ((ixF n ns fh:Nat):Int)]] .full (fun z hz=>by
  simp only[AT,List.not_mem_nil,or_false]at hz
  rcases hz with hz|hz
  ·exact⟨⟨A1,D1,treeT n ff⟩,o1,o2,hz,hR1.ok hD hf mf⟩
  ·exact⟨⟨A2,D2,treeT n fh⟩,o3,o4,hz,hR2.ok hD hh mh⟩) (by simp)
 have wix:=fun(u:St) (a:List UInt8)=>xW A1 o1 a (by have:=hR1.nm.2.2;omega) u
 have ht4:Dom4 ds o (aK A1 D1 A2):=fun d hd=>hR1.d4 d (ht d hd)
 have hvd:(aj o (aK A1 D1 A2)).length=(aj o D2).length:=by rw[ht4.vl,hR2.d4.vl,dp,hR2.ln]
 have hkl:(aK A1 D1 A2).length<=8:=by rw[dp,hR2.ln];exact hl82
 have wt:=fun(u:St) (m':Nat) (hm:RMem u KK x m' q c n B ns ds o) (ow:Own)=>vP hm hD D2 (aK A1 D1 A2) o4 ow hh (aJ hD hR2.d4.lt) mh hR2.d4.lt ht4.lt hR2.nd htn hl82 hkl hvd hc hB
 have hsz:=fun d (hd:d∈D1\/d∈D2)=>show (szC ds)[d]?=some [.int .i64 4] from by
  have h4:∃nm,ds[d]?=some (nm,4):=hd.elim (fun e=>(hR1.d4 d e).1) (fun e=>(hR2.d4 d e).1)
  obtain⟨nm,e⟩:=h4
  exact kT e
 have HSZ4:=o_ hsz
 have hA1l:=dj A1
 have hA2l:=dj A2
 have hln1:=hR1.ln
 have hln2:=hR2.ln
 have HSA2:=o_ (fun(i:Nat) (a:List UInt8) (e:A2[i]?=some a)=>iD e)
 have HSD1:=o_ (fun(i:Nat) (d:Nat) (e:D1[i]?=some d)=>aH e)
 have HSD2:=o_ (fun(i:Nat) (d:Nat) (e:D2[i]?=some d)=>aH e)
 have WM:=o_ wm
 have WIX:=o_ wix
 have WT:=o_ wt
 have HM:=o_ hM
 have HMF:=o_ mf
 have HMH:=o_ mh
 have HC:=o_ hc
 have HSUB:=o_ hsub
 clear wm wix wt hM mf mh hc hR1 hR2 hf hh hD hsz hsub hB ht4 ht htn hvd
 generalize hkf:ixF n ns ff=kf at *
 generalize hkh:ixF n ns fh=kh at *
 clear hkf hkh
 generalize az A1=SA1 at *
 generalize az A2=SA2 at *
 generalize ak D1=V1 at *
 generalize ak D2=V2 at *
 generalize hSZE:szC ds=SZ at *
 have HSZE:=o_ hSZE
 clear hSZE
 refine am Tryz.func80 rfl Tryz.ntmps80 rfl fun Q hQ hQe=>?_
 (repeat'(first|refine Ctl ?_|((with_reducible refine k_ hK ?_);clear hK hE K E)|((first|(with_reducible refine ab fun K E hK hE=>?_)|((with_reducible refine au (fun b hb=>?_));(repeat(obtain⟨_,hb⟩:=hb))))<;>(try simp(disch:=omega) only[go_sem,seval, *]))))
 rename_i b4 hb4 n1 n2
 obtain⟨b5,hb5e⟩:∃z,z=b:=⟨_,rfl⟩
 subst hb5e
 have hb5:s b5=.free:=hb
 obtain⟨u0,hu0⟩:∃u,u=(s.set b4 (.obj 30 [.lst SA1 o1,.lst V1 o2,.int .i64 (kf:Int)])).set b5 (.obj 30 [.lst SA2 o3,.lst V2 o4,.int .i64 (kh:Int)]):=⟨_,rfl⟩
 rw[<- hu0]
 have g0:∀z,s z≠.free->u0 z=s z:=fun z hz=>by rw[hu0,j_ _ _ (nef hb5 hz).1,j_ _ _ (nef hb4 hz).1]
 have k4:u0 b4=.obj 30 [.lst SA1 o1,.lst V1 o2,.int .i64 (kf:Int)]:=by rw[hu0,j_ _ _ (by assumption),q_]
 have k5:u0 b5=.obj 30 [.lst SA2 o3,.lst V2 o4,.int .i64 (kh:Int)]:=by rw[hu0,q_]
 have wm:=WM.out u0 g0
 have G0:=o_ g0
 clear hu0 hb g0 WM hb4 hb5 n1 n2
 refine ao oY wm (fun a h=>?_)
 obtain⟨u1,m1⟩:=a
 obtain⟨M1,K1⟩:=h
 dsimp only at M1 K1 ⊢
 have R1:=RelR.win M1 K1 HMF.out HC.out
 have j4:=R1.own (HM.out.more G0.out) k4 (by decide) (by decide) (by decide) (by decide)
 have j5:=R1.own (HM.out.more G0.out) k5 (by decide) (by decide) (by decide) (by decide)
 have R2:RelR s KK x m q c n B ns ds o N ff (u1,KK,m1,ns):=(RelR.win (HM.out.more G0.out) (.new G0.out) HMF.out HC.out).then R1
 dsimp only at j4 j5
 obtain⟨a1,hx⟩:=M1.xf
 unfold spC at hx
 rw[HSZE.out]at hx
 have HR2:=o_ R2
 have HM1:=o_ M1
 have hl4:u1 b4≠.free:=by rw[j4];simp
 have hl5:u1 b5≠.free:=by rw[j5];simp
 have hlx:u1 x≠.free:=M1.xl
 clear wm M1 K1 R1 R2 k4 k5
 simp only[go_sem,seval]
 (repeat'(first|refine Ctl ?_|((with_reducible refine k_ hK ?_);clear hK hE K E)|((with_reducible refine ah (fun h=>?_) (fun h=>?_))<;>(try(exfalso;assumption)))|(((with_reducible refine ab fun K E hK hE=>?_))<;>(try simp(disch:=omega) only[go_sem,seval,hA2l, *]))))
 refine bV (fun f env s'=>∃(i:Nat) (ow:Own),i<=A2.length/\f+i=A2.length/\OwnOk u1 ow i/\s'=u1.own ow 3 1 i/\env 0=.ptr x 0/\env 4=.ptr b4 0/\env 5=.ptr b5 0/\env 8=.lst (ak (aK A1 D1 (A2.take i))) ow/\env 19=.lst SA2 o3/\env 20=.int .i64 A2.length/\env 21=.int .i64 (i:Int)) A2.length ?_ ?_
 ·exact⟨_,Fg.refl _,0,.full,by omega,by omega,rfl,rfl,ac,ac,ac,(by(rw[show ak (aK A1 D1 (A2.take 0))=[] from rfl];((try simp(disch:=assumption) only[go_sem,seval, *])<;>rfl))),ac,ac,ac⟩
 rintro f env s' ⟨i,ow,hi,hfi,hO,rfl,e0,e4,e5,e8,e19,e20,e21⟩
 by_cases hlt:i<A2.length
 ·obtain⟨a,ha⟩:∃a,A2[i]?=some a:=⟨_,m_ hlt⟩
  obtain⟨d,hd⟩:∃d,D2[i]?=some d:=⟨_,m_ (by omega)⟩
  have hxa:=HSA2.out i a ha
  have hxd:=HSD2.out i d hd
  obtain⟨k,hix,hk⟩:∃k:Nat,ixA a A1=(k:Int)/\A1[k]?=some a:=by
   rcases lk a A1 with ⟨_,h⟩|h
   ·exact absurd (HSUB.out a (y_ ha)) h
   ·exact h
  obtain⟨dk,hdk⟩:∃d,D1[k]?=some d:=⟨_,m_ (by have:=(x_.1 hk).1;omega)⟩
  have hv1:=HSD1.out k dk hdk
  have hz1:=HSZ4.out dk (.inl (y_ hdk))
  have hz2:=HSZ4.out d (.inr (y_ hd))
  have hka:=qr (A:=A1) (D:=D1) ha hix hdk
  have hkn:ak (aK A1 D1 (A2.take (i+1)))=ak (aK A1 D1 (A2.take i))++[[.int .i64 (dk:Int)]]:=by rw[hka];simp[ak]
  have hln:(ak (aK A1 D1 (A2.take i))).length=i:=by rw[natsL_len,dp,r_];omega
  have HKN:=o_ hkn
  have wix:=fun u=>WIX.out u a
  rw[hix]at wix
  have q4:=hO.not hl4
  have q5:=hO.not hl5
  have qx:=hO.not hlx
  clear hka hkn ha hd hix hk hdk
  generalize ak (aK A1 D1 (A2.take i))=RW at *
  (repeat'(first|refine Ctl ?_|(with_reducible first|(refine k_ hK ?_;clear hK hE K E)|(refine k_ hKh ?_;clear hKh Kh)|refine ax 8 [] [0,1,2,3,4,5,6,7,8,9,10,11,12,13,14,15,16,17,18,19,20,21,22,23,24,25,26] hQe fun K E hK hE=>?_)|((with_reducible refine ah (fun h=>?_) (fun h=>?_))<;>(try(exfalso;first|assumption|omega)))|((first|(with_reducible first|refine ab fun K E hK hE=>?_|refine ae kB (wix _) ?_|refine aG fun Kh hKh=>?_)|((with_reducible refine fC (fun o2 ho=>?_));(try simp(disch:=assumption) only[bz,bB,cZ,c6,z_,List.length_cons,List.length_nil,Nat.zero_add,hA2l,hxa,hxd,hv1,hz1,hz2,hln]at ho))|((with_reducible refine pH (fun h=>?_) (fun h=>?_))<;>(try(exfalso;omega))))<;>(try simp(disch:=first|assumption|omega) only[go_sem,seval,hA2l,hxa,hxd,hv1,hz1,hz2,hln, *]))))
  all_goals exact⟨_,Fg.refl _,f - 1,by omega,i+1,o2,by omega,by omega,ho,rfl,ac,ac,ac,(by(rw[HKN.out];((try simp(disch:=assumption) only[go_sem,seval, *])<;>rfl))),ac,ac,ac⟩
 ·have hin:i=A2.length:=by omega
  have hnl:¬ (i:Int)<(A2.length:Int):=by omega
  rw[hin,b_]at e8
  (repeat'(first|(with_reducible refine aR 12 ?_)|refine Ctl ?_|((with_reducible refine k_ hK ?_);clear hK hE K E)|((with_reducible refine ah (fun h=>?_) (fun h=>?_))<;>(try(exfalso;omega)))|(((with_reducible refine ab fun K E hK hE=>?_))<;>(try simp(disch:=omega) only[go_sem,seval,hA2l,hnl, *]))))
  unfold bC
  refine dr (s':=u1) (Fg.own hO) ?_
  have wt:=WT.out u1 m1 HM1.out ow
  unfold OpFC at wt
  clear hO
  generalize ak (aK A1 D1 A2)=VT at *
  (repeat'(first|refine Ctl ?_|((with_reducible refine k_ hK ?_);clear hK hE K E)|((with_reducible refine ah (fun h=>?_) (fun h=>?_))<;>(try(exfalso;assumption)))|(((with_reducible refine ab fun K E hK hE=>?_))<;>(try simp(disch:=omega) only[go_sem,seval,hA1l,hA2l,hlen, *]))))
  refine ao xJ wt (fun a h=>?_)
  obtain⟨u3,K3,ns3⟩:=a
  try dsimp only at h
  have HR3:Hid (RelR s KK x m q c n B ns ds o (N+((aj o D2).length+2) * 2 ^ (aj o D2).length) (rnF (aX (aj o D2) (aj o (aK A1 D1 A2))) fh) (u3,K3,m1,ns3)):=o_ (HR2.out.then (RelR.op HM1.out h))
  dsimp only
  clear h wt
  simp only[go_sem,seval]
  (repeat'(first|refine Ctl ?_|((with_reducible refine k_ hK ?_);clear hK hE K E)))
  all_goals(refine aq FP hQ ?_)
  all_goals exact⟨_,_,Wk.refl _,Fg.refl _,(u3,K3,m1,ns3),rfl,rfl,HR3.out⟩
end Go.Proofs.YtohnaepcgnbaiaaGreatDoor
namespace Go.Proofs.YtohnaepcgnbaiaaGreatDoor
open Go.RowKit
attribute [-go_sem] bJ cX bH bG aT cU cT
theorem sJ {o:List (List Nat)}{ks kt:List Nat}{f:(Nat->Bool)->Bool}(hf:DepF (aj o ks) f)(hl:(aj o kt).length=(aj o ks).length)(hn:(aj o ks).Nodup):DepF (aj o kt) (rnF (aX (aj o ks) (aj o kt)) f):=by
 have e:=iH (A:=aj o ks) (A':=aj o kt) (B:=[]) (B':=[]) hl rfl (by simpa using hn)
 simp only[List.append_nil]at e
 have h1:=qT (by_:=aX (aj o ks) (aj o kt)) hf
 rwa [e]at h1
def DoC (g:FuncId)(bq x q c n B:Nat)(ds:List (List UInt8×Nat))(o:List (List Nat))(f1 f2:(Nat->Bool)->Bool)(op:Bool->Bool->Bool)(cst:Nat):Prop:=
 ∀(u:St) (K:OB) (m:Nat) (ns:List Tr) (N:Nat),RMem u K x m q c n B ns ds o->u bq=.obj 24 [.ptr x 0]->treeT n f1∈ns->treeT n f2∈ns->CntN ns N->N+cst<=B ->
  OpFC g [.int .i64 (ixF n ns f1:Nat),.int .i64 (ixF n ns f2:Nat),.ptr bq 0] u K n B ns (N+cst) (fun y=>op (f1 y) (f2 y))
set_option maxHeartbeats 16000000 in
theorem xS {s:St}{KK:OB}{x m q c n B N bq cst:Nat}{ns:List Tr}{ds:List (List UInt8×Nat)}{o:List (List Nat)}(hn64:n<=64)(hM:RMem s KK x m q c n B ns ds o)(hD:DOk n ds o){ff fh:(Nat->Bool)->Bool}(A1:List (List UInt8))(o1:Own)(D1:List Nat)(o2:Own)(hR1:Rel4 ds o A1 D1)(hf:DepF (aj o D1) ff)(mf:treeT n ff∈ns)
  (A2:List (List UInt8)) (o3:Own) (D2:List Nat) (o4:Own) (hR2:Rel4 ds o A2 D2) (hh:DepF (aj o D2) fh) (mh:treeT n fh∈ns) (hsub:∀a,a∈A2->a∈A1) (hlen:A2.length=A1.length) (htn:(aK A1 D1 A2).Nodup) (ht:∀k,k∈aK A1 D1 A2->k∈D1)
  {g:FuncId} (canG:an Tryz.prog g) (op:Bool->Bool->Bool) (hG:DoC g bq x q c n B ds o ff (rnF (aX (aj o D2) (aj o (aK A1 D1 A2))) fh) op cst) (hbq:s bq=.obj 24 [.ptr x 0])
  (hc:CntN ns N) (hB:N+((aj o D2).length+2) * 2 ^ (aj o D2).length+cst<=B) :
  SCalls Tryz.prog 47 [.ptr x 0,.agg [.lst (az A1) o1,.lst (ak D1) o2,.int .i64 (ixF n ns ff:Nat)],.agg [.lst (az A2) o3,.lst (ak D2) o4,.int .i64 (ixF n ns fh:Nat)],.fn g [.ptr bq 0]] s fun w u=>∃a:gI,w=.ret (.tup [.agg [.lst (az A1) .no,.lst (ak D1) .no,.int .i64 (ixF n a.2.2.2 (fun y=>op (ff y) (rnF (aX (aj o D2) (aj o (aK A1 D1 A2))) fh y)):Nat)],.int .i64 0])/\u=a.1/\RelR s KK x m q c n B ns ds o (N+((aj o D2).length+2) * 2 ^ (aj o D2).length+cst) (fun y=>op (ff y) (rnF (aX (aj o D2) (aj o (aK A1 D1 A2))) fh y)) a:=by
 have wl:=fun(u:St) (hu:∀z,s z≠.free->u z=s z)=>Fn hn64 (hM.more hu) hD A1 o1 D1 o2 hR1 hf mf A2 o3 D2 o4 hR2 hh mh hsub hlen htn ht hc (by omega)
 have wcs:=fun u=>iA u A1 o1 (by have:=hR1.nm.2.2;omega)
 have wcn:=fun u=>pt u D1 o2 (by have:=hR1.l8;omega)
 have WL:=o_ wl
 have WCS:=o_ wcs
 have WCN:=o_ wcn
 have HM:=o_ hM
 have HMF:=o_ mf
 have HC:=o_ hc
 have HG:=o_ hG
 have HB:=o_ hB
 have HBQ:=o_ hbq
 clear wl wcs wcn hM mf hc hG hB hR1 hR2 hf hh mh hsub htn ht hbq
 generalize hkf:ixF n ns ff=kf at *
 have HKF:=o_ hkf
 clear hkf
 generalize ixF n ns fh=kh at *
 generalize az A1=SA1 at *
 generalize az A2=SA2 at *
 generalize ak D1=V1 at *
 generalize ak D2=V2 at *
 generalize hGG:rnF (aX (aj o D2) (aj o (aK A1 D1 A2))) fh=G at *
 have HGG:=o_ hGG
 clear hGG
 refine am Tryz.func47 rfl Tryz.ntmps47 rfl fun Q hQ hQe=>?_
 (repeat'(first|refine Ctl ?_|((with_reducible refine k_ hK ?_);clear hK hE K E)|((first|(with_reducible refine ab fun K E hK hE=>?_)|((with_reducible refine au (fun b hb=>?_));(repeat(obtain⟨_,hb⟩:=hb))))<;>(try simp(disch:=omega) only[go_sem,seval, *]))))
 rename_i b5 hb5 b6 n1 n2 hb6 n3 n4 n5 n6
 obtain⟨b8,hb8e⟩:∃z,z=b:=⟨_,rfl⟩
 subst hb8e
 have hb8:s b8=.free:=hb
 obtain⟨u0,hu0⟩:∃u,u=((s.set b5 (.obj 30 [.lst SA1 o1,.lst V1 o2,.int .i64 (kf:Int)])).set b6 (.obj 30 [.lst SA2 o3,.lst V2 o4,.int .i64 (kh:Int)])).set b8 (.obj 30 [.lst [] .full,.lst [] .full,.int .i64 0]):=⟨_,rfl⟩
 rw[<- hu0]
 have g0:∀z,s z≠.free->u0 z=s z:=fun z hz=>by rw[hu0,j_ _ _ (nef hb8 hz).1,j_ _ _ (nef hb6 hz).1,j_ _ _ (nef hb5 hz).1]
 have k5:u0 b5=.obj 30 [.lst SA1 o1,.lst V1 o2,.int .i64 (kf:Int)]:=by rw[hu0,j_ _ _ (by assumption),j_ _ _ (by assumption),q_]
 have k8:u0 b8=.obj 30 [.lst [] .full,.lst [] .full,.int .i64 0]:=by rw[hu0,q_]
 have kq:u0 bq=.obj 24 [.ptr x 0]:=(g0 bq (by rw[HBQ.out];simp)).trans HBQ.out
 have wl:=WL.out u0 g0
 have G0:=o_ (And.intro g0 hb8)
 clear hu0 hb g0 WL hb5 hb6 hb8 n1 n2 n3 n4 n5 n6
 refine ao P2 wl (fun a h=>?_)
 obtain⟨u1,K1,m1,ns1⟩:=a
 have HL:=o_ h
 have j5:=h.own (HM.out.more G0.out.1) k5 (by decide) (by decide) (by decide) (by decide)
 have j8:=h.own (HM.out.more G0.out.1) k8 (by decide) (by decide) (by decide) (by decide)
 have jq:=h.own (HM.out.more G0.out.1) kq (by decide) (by decide) (by decide) (by decide)
 have mf1:=bn h.pre HMF.out
 have R1:=(RelR.win (HM.out.more G0.out.1) (.new G0.out.1) HMF.out HC.out).then h
 have wd:=HG.out u1 K1 m1 ns1 _ h.M jq mf1.1 h.mem h.cnt HB.out
 have e1:ixF n ns1 ff=kf:=mf1.2.trans HKF.out
 rw[e1]at wd
 have HR1:=o_ R1
 have HM1:=o_ h.M
 unfold OpFC at wd
 dsimp only at j5 j8 jq HR1 HM1 ⊢
 clear h wl k5 k8 kq mf1 e1 R1 HL
 generalize ixF n ns1 G=kG at *
 simp only[go_sem,seval]
 (repeat'(first|refine Ctl ?_|((with_reducible refine k_ hK ?_);clear hK hE K E)|((with_reducible refine ah (fun h=>?_) (fun h=>?_))<;>(try(exfalso;assumption)))|(((with_reducible refine ab fun K E hK hE=>?_))<;>(try simp(disch:=omega) only[go_sem,seval, *]))))
 refine ao canG wd (fun a h=>?_)
 obtain⟨u2,K2,ns2⟩:=a
 try dsimp only at h
 have HR2:Hid (RelR s KK x m q c n B ns ds o (N+((aj o D2).length+2) * 2 ^ (aj o D2).length+cst) (fun y=>op (ff y) (G y)) (u2,K2,m1,ns2)):=o_ (HR1.out.then (RelR.op HM1.out h))
 have l5:=(h.k.out b5 (by rw[j5];simp) (HM1.out.C.om.types j5 (by decide) (by decide) (by decide))).trans j5
 have l8:=(h.k.out b8 (by rw[j8];simp) (HM1.out.C.om.types j8 (by decide) (by decide) (by decide))).trans j8
 dsimp only at l5 l8 ⊢
 generalize hkp:ixF n ns2 (fun y=>op (ff y) (G y))=kp at *
 have HKP:=o_ hkp
 clear h wd j5 j8 jq hkp
 simp only[go_sem,seval]
 (repeat'(first|refine Ctl ?_|(with_reducible first|(refine k_ hK ?_;clear hK hE K E)|(refine k_ hKh ?_;clear hKh Kh)|(refine k_ hKb (aC ?_);clear hKb Kb)|refine ax 6 [([0,1,3,4,6],2,[[3,4,6]]),([],5,[[],[6]]),([7],8,[[],[],[]])] [9] hQe fun K E hK hE=>?_)|((with_reducible refine ah (fun h=>?_) (fun h=>?_))<;>(try(exfalso;assumption)))|(((with_reducible first|refine ab fun K E hK hE=>?_|refine ae lV (WCS.out _) ?_|refine ae ft (WCN.out _) ?_|refine ay fun Kh hKh=>?_|refine aG fun Kh hKh=>?_|refine aB fun Kb hKb=>?_))<;>(try simp(disch:=omega) only[go_sem,seval, *]))))
 all_goals(refine aq Ga hQ ?_)
 all_goals refine⟨_,_,Wk.refl _,Fg.refl _,(St.set _ b8 _,K2,m1,ns2),?_,rfl,?_⟩
 ·exact congrArg (fun z:Nat=>SEnd.ret (.tup [.agg [.lst SA1 .no,.lst V1 .no,.int .i64 (z:Int)],.int .i64 0])) HKP.out.symm
 ·exact HR2.out.finG fun z hz=>by
   by_cases e8:z=b8
   ·subst e8;exact .inr ⟨⟨_,l8⟩,fun e=>absurd G0.out.2 e⟩
   ·exact .inl (j_ _ _ e8)
set_option maxHeartbeats 4000000 in
theorem MD {x q c n B bq cst:Nat}{ds:List (List UInt8×Nat)}{o:List (List Nat)}{f1 f2:(Nat->Bool)->Bool}(h1:ep n f1)(h2:ep n f2)(hm:SubN (treeT n fun y=>f1 y || f2 y) cst):DoC 48 bq x q c n B ds o f1 f2 (fun p q=>p || q) cst:=by
 intro u K m ns N M hb m1 m2 hc hB
 have wq:=dD u q K.o K.s.p M.C.qo
 have wo:=Ca M.C.om h1 h2 m1 m2 hc hm hB
 obtain⟨a1,hx⟩:=M.xf
 unfold spC at hx
 unfold OpFC at wo ⊢
 generalize szC ds=SZ at *
 generalize ixF n ns f1=k1 at *
 generalize ixF n ns f2=k2 at *
 clear M m1 m2 hc hB h1 h2 hm
 refine am Tryz.func48 rfl Tryz.ntmps48 rfl fun Q hQ hQe=>?_
 (repeat'(first|refine Ctl ?_|((with_reducible refine k_ hK ?_);clear hK hE K E)|(((with_reducible first|refine ab fun K E hK hE=>?_|refine ae dK (wq) ?_))<;>(try simp(disch:=omega) only[go_sem,seval, *]))))
 refine ao xH wo (fun a h=>?_)
 obtain⟨u1,K1,ns1⟩:=a
 have H:=o_ h
 dsimp only
 clear h wo
 simp only[go_sem,seval]
 (repeat'(first|refine Ctl ?_|((with_reducible refine k_ hK ?_);clear hK hE K E)))
 all_goals(refine aq F9 hQ ?_)
 all_goals exact⟨_,_,Wk.refl _,Fg.refl _,(u1,K1,ns1),rfl,rfl,H.out⟩
set_option maxHeartbeats 16000000 in
theorem Qx {s:St}{KK:OB}{x m q c n B N:Nat}{ns:List Tr}{ds:List (List UInt8×Nat)}{o:List (List Nat)}(hn64:n<=64)(hM:RMem s KK x m q c n B ns ds o)(hD:DOk n ds o){ff fh:(Nat->Bool)->Bool}(A1:List (List UInt8))(o1:Own)(D1:List Nat)(o2:Own)(hR1:Rel4 ds o A1 D1)(hf:DepF (aj o D1) ff)(mf:treeT n ff∈ns)
  (A2:List (List UInt8)) (o3:Own) (D2:List Nat) (o4:Own) (hR2:Rel4 ds o A2 D2) (hh:DepF (aj o D2) fh) (mh:treeT n fh∈ns) (hsub:∀a,a∈A2->a∈A1) (hlen:A2.length=A1.length) (htn:(aK A1 D1 A2).Nodup) (ht:∀k,k∈aK A1 D1 A2->k∈D1)
  (hc:CntN ns N) (hB:N+((aj o D2).length+2) * 2 ^ (aj o D2).length+2 ^ (aj o D1).length<=B) :
  SCalls Tryz.prog 17 [.ptr x 0,.agg [.lst (az A1) o1,.lst (ak D1) o2,.int .i64 (ixF n ns ff:Nat)],.agg [.lst (az A2) o3,.lst (ak D2) o4,.int .i64 (ixF n ns fh:Nat)]] s fun w u=>∃a:gI,w=.ret (.tup [.agg [.lst (az A1) .no,.lst (ak D1) .no,.int .i64 (ixF n a.2.2.2 (fun y=>ff y || rnF (aX (aj o D2) (aj o (aK A1 D1 A2))) fh y):Nat)],.int .i64 0])/\u=a.1/\RelR s KK x m q c n B ns ds o (N+((aj o D2).length+2) * 2 ^ (aj o D2).length+2 ^ (aj o D1).length) (fun y=>ff y || rnF (aX (aj o D2) (aj o (aK A1 D1 A2))) fh y) a:=by
 have ht4:Dom4 ds o (aK A1 D1 A2):=fun d hd=>hR1.d4 d (ht d hd)
 have hvd:(aj o (aK A1 D1 A2)).length=(aj o D2).length:=by rw[ht4.vl,hR2.d4.vl,dp,hR2.ln]
 have hgd:=sJ hh hvd (cr hD hR2.nd hR2.d4.lt)
 have hprod:DepF (aj o D1) (fun y=>ff y || rnF (aX (aj o D2) (aj o (aK A1 D1 A2))) fh y):=fun y1 y2 e=>by
  have e1:=hf y1 y2 e
  have e2:=hgd y1 y2 fun v hv=>e v (gk ht v hv)
  dsimp only
  rw[e1,e2]
 have hsub2:=(di (aJ hD hR1.d4.lt) hprod (Nat.le_refl _)).mono (Nat.sub_le _ _)
 have wb:=fun(u:St) (bq:Nat) (hu:∀z,s z≠.free->u z=s z) (hb:u bq=.obj 24 [.ptr x 0])=>xS hn64 (hM.more hu) hD A1 o1 D1 o2 hR1 hf mf A2 o3 D2 o4 hR2 hh mh hsub hlen htn ht Qe (fun p q=>p || q) (MD (hf.hang (aJ hD hR1.d4.lt)) (hgd.hang (aJ hD ht4.lt)) hsub2) hb hc hB
 have WB:=o_ wb
 have c0:=hM.C.om.c0.1
 have HR0:Hid (∀(u:St),(∀z,s z≠.free->u z=s z)->RelR s KK x m q c n B ns ds o N ff (u,KK,m,ns)):=o_ fun u hu=>RelR.win (hM.more hu) (.new hu) mf hc
 have HM:=o_ hM
 clear wb hsub2 hprod hgd hvd ht4 hf mf hh mh hsub hlen htn ht hc hB hR1 hR2 hM c0
 generalize ixF n ns ff=kf at *
 generalize ixF n ns fh=kh at *
 generalize az A1=SA1 at *
 generalize az A2=SA2 at *
 generalize ak D1=V1 at *
 generalize ak D2=V2 at *
 refine am Tryz.func17 rfl Tryz.ntmps17 rfl fun Q hQ hQe=>?_
 (repeat'(first|refine Ctl ?_|((with_reducible refine k_ hK ?_);clear hK hE K E)|((first|(with_reducible refine ab fun K E hK hE=>?_)|((with_reducible refine au (fun b hb=>?_));(repeat(obtain⟨_,hb⟩:=hb))))<;>(try simp(disch:=omega) only[go_sem,seval, *]))))
 rename_i b3 hb3 b4 _ _ hb4 b5 _ _ _ _ hb5 _ _ _ _ _ _
 obtain⟨b6,hb6e⟩:∃z,z=b:=⟨_,rfl⟩
 subst hb6e
 have hb6:s b6=.free:=hb
 obtain⟨u0,hu0⟩:∃u,u=(((s.set b3 (.obj 24 [.ptr x 0])).set b4 (.obj 30 [.lst SA1 o1,.lst V1 o2,.int .i64 (kf:Int)])).set b5 (.obj 30 [.lst SA2 o3,.lst V2 o4,.int .i64 (kh:Int)])).set b6 (.obj 30 [.lst [] .full,.lst [] .full,.int .i64 0]):=⟨_,rfl⟩
 rw[<- hu0]
 have g0:∀z,s z≠.free->u0 z=s z:=fun z hz=>by rw[hu0,j_ _ _ (nef hb6 hz).1,j_ _ _ (nef hb5 hz).1,j_ _ _ (nef hb4 hz).1,j_ _ _ (nef hb3 hz).1]
 have k3:u0 b3=.obj 24 [.ptr x 0]:=by rw[hu0,j_ _ _ (by assumption),j_ _ _ (by assumption),j_ _ _ (by assumption),q_]
 have k6:u0 b6=.obj 30 [.lst [] .full,.lst [] .full,.int .i64 0]:=by rw[hu0,q_]
 have wb:=WB.out u0 b3 g0 k3
 have HRS:=o_ (HR0.out u0 g0)
 have G0:=o_ (And.intro g0 hb6)
 clear hu0 hb g0 k3 WB hb3 hb4 hb5 hb6
 refine ao GQ wb (fun a h=>?_)
 obtain⟨u1,K1,m1,ns1⟩:=a
 have j6:=h.own (HM.out.more G0.out.1) k6 (by decide) (by decide) (by decide) (by decide)
 have HR1:=o_ (HRS.out.then h)
 dsimp only at j6 HR1 ⊢
 clear h wb k6
 generalize hGG:(fun y=>ff y || rnF (aX (aj o D2) (aj o (aK A1 D1 A2))) fh y)=GG at *
 have HGG:=o_ hGG
 clear hGG
 generalize hkp:ixF n ns1 GG=kp at *
 have HKP:=o_ hkp
 clear hkp
 simp only[go_sem,seval,j6]
 (repeat'(first|refine Ctl ?_|((with_reducible refine k_ hK ?_);clear hK hE K E)))
 all_goals(refine aq Gu hQ ?_)
 all_goals refine⟨_,_,Wk.refl _,Fg.refl _,(St.set _ b6 _,K1,m1,ns1),?_,rfl,?_⟩
 ·exact congrArg (fun z:Nat=>SEnd.ret (.tup [.agg [.lst SA1 .no,.lst V1 .no,.int .i64 (z:Int)],.int .i64 0])) HKP.out.symm
 ·exact HR1.out.finG fun z hz=>by
   by_cases e6:z=b6
   ·subst e6;exact .inr ⟨⟨_,j6⟩,fun e=>absurd G0.out.2 e⟩
   ·exact .inl (j_ _ _ e6)
set_option maxHeartbeats 4000000 in
theorem Ft {x q c n B bq cst:Nat}{ds:List (List UInt8×Nat)}{o:List (List Nat)}{f1 f2:(Nat->Bool)->Bool}(h1:ep n f1)(h2:ep n f2)(hm:SubN (treeT n fun y=>f1 y && !f2 y) cst):DoC 50 bq x q c n B ds o f1 f2 (fun p q=>p && !q) cst:=by
 intro u K m ns N M hb m1 m2 hc hB
 have wq:=dD u q K.o K.s.p M.C.qo
 have wo:=xT M.C.om h1 h2 m1 m2 hc hm hB
 obtain⟨a1,hx⟩:=M.xf
 unfold spC at hx
 unfold OpFC at wo ⊢
 generalize szC ds=SZ at *
 generalize ixF n ns f1=k1 at *
 generalize ixF n ns f2=k2 at *
 clear M m1 m2 hc hB h1 h2 hm
 refine am Tryz.func50 rfl Tryz.ntmps50 rfl fun Q hQ hQe=>?_
 (repeat'(first|refine Ctl ?_|((with_reducible refine k_ hK ?_);clear hK hE K E)|(((with_reducible first|refine ab fun K E hK hE=>?_|refine ae dK (wq) ?_))<;>(try simp(disch:=omega) only[go_sem,seval, *]))))
 refine ao GP wo (fun a h=>?_)
 obtain⟨u1,K1,ns1⟩:=a
 have H:=o_ h
 dsimp only
 clear h wo
 simp only[go_sem,seval]
 (repeat'(first|refine Ctl ?_|((with_reducible refine k_ hK ?_);clear hK hE K E)))
 all_goals(refine aq F7 hQ ?_)
 all_goals exact⟨_,_,Wk.refl _,Fg.refl _,(u1,K1,ns1),rfl,rfl,H.out⟩
set_option maxHeartbeats 16000000 in
theorem MA {s:St}{KK:OB}{x m q c n B N:Nat}{ns:List Tr}{ds:List (List UInt8×Nat)}{o:List (List Nat)}(hn64:n<=64)(hM:RMem s KK x m q c n B ns ds o)(hD:DOk n ds o){ff fh:(Nat->Bool)->Bool}(A1:List (List UInt8))(o1:Own)(D1:List Nat)(o2:Own)(hR1:Rel4 ds o A1 D1)(hf:DepF (aj o D1) ff)(mf:treeT n ff∈ns)
  (A2:List (List UInt8)) (o3:Own) (D2:List Nat) (o4:Own) (hR2:Rel4 ds o A2 D2) (hh:DepF (aj o D2) fh) (mh:treeT n fh∈ns) (hsub:∀a,a∈A2->a∈A1) (hlen:A2.length=A1.length) (htn:(aK A1 D1 A2).Nodup) (ht:∀k,k∈aK A1 D1 A2->k∈D1)
  (hc:CntN ns N) (hB:N+((aj o D2).length+2) * 2 ^ (aj o D2).length+2 ^ (aj o D1).length<=B) :
  SCalls Tryz.prog 18 [.ptr x 0,.agg [.lst (az A1) o1,.lst (ak D1) o2,.int .i64 (ixF n ns ff:Nat)],.agg [.lst (az A2) o3,.lst (ak D2) o4,.int .i64 (ixF n ns fh:Nat)]] s fun w u=>∃a:gI,w=.ret (.tup [.agg [.lst (az A1) .no,.lst (ak D1) .no,.int .i64 (ixF n a.2.2.2 (fun y=>ff y && !rnF (aX (aj o D2) (aj o (aK A1 D1 A2))) fh y):Nat)],.int .i64 0])/\u=a.1/\RelR s KK x m q c n B ns ds o (N+((aj o D2).length+2) * 2 ^ (aj o D2).length+2 ^ (aj o D1).length) (fun y=>ff y && !rnF (aX (aj o D2) (aj o (aK A1 D1 A2))) fh y) a:=by
 have ht4:Dom4 ds o (aK A1 D1 A2):=fun d hd=>hR1.d4 d (ht d hd)
 have hvd:(aj o (aK A1 D1 A2)).length=(aj o D2).length:=by rw[ht4.vl,hR2.d4.vl,dp,hR2.ln]
 have hgd:=sJ hh hvd (cr hD hR2.nd hR2.d4.lt)
 have hprod:DepF (aj o D1) (fun y=>ff y && !rnF (aX (aj o D2) (aj o (aK A1 D1 A2))) fh y):=fun y1 y2 e=>by
  have e1:=hf y1 y2 e
  have e2:=hgd y1 y2 fun v hv=>e v (gk ht v hv)
  dsimp only
  rw[e1,e2]
 have hsub2:=(di (aJ hD hR1.d4.lt) hprod (Nat.le_refl _)).mono (Nat.sub_le _ _)
 have wb:=fun(u:St) (bq:Nat) (hu:∀z,s z≠.free->u z=s z) (hb:u bq=.obj 24 [.ptr x 0])=>xS hn64 (hM.more hu) hD A1 o1 D1 o2 hR1 hf mf A2 o3 D2 o4 hR2 hh mh hsub hlen htn ht Qd (fun p q=>p && !q) (Ft (hf.hang (aJ hD hR1.d4.lt)) (hgd.hang (aJ hD ht4.lt)) hsub2) hb hc hB
 have WB:=o_ wb
 have c0:=hM.C.om.c0.1
 have HR0:Hid (∀(u:St),(∀z,s z≠.free->u z=s z)->RelR s KK x m q c n B ns ds o N ff (u,KK,m,ns)):=o_ fun u hu=>RelR.win (hM.more hu) (.new hu) mf hc
 have HM:=o_ hM
 clear wb hsub2 hprod hgd hvd ht4 hf mf hh mh hsub hlen htn ht hc hB hR1 hR2 hM c0
 generalize ixF n ns ff=kf at *
 generalize ixF n ns fh=kh at *
 generalize az A1=SA1 at *
 generalize az A2=SA2 at *
 generalize ak D1=V1 at *
 generalize ak D2=V2 at *
 refine am Tryz.func18 rfl Tryz.ntmps18 rfl fun Q hQ hQe=>?_
 (repeat'(first|refine Ctl ?_|((with_reducible refine k_ hK ?_);clear hK hE K E)|((first|(with_reducible refine ab fun K E hK hE=>?_)|((with_reducible refine au (fun b hb=>?_));(repeat(obtain⟨_,hb⟩:=hb))))<;>(try simp(disch:=omega) only[go_sem,seval, *]))))
 rename_i b3 hb3 b4 _ _ hb4 b5 _ _ _ _ hb5 _ _ _ _ _ _
 obtain⟨b6,hb6e⟩:∃z,z=b:=⟨_,rfl⟩
 subst hb6e
 have hb6:s b6=.free:=hb
 obtain⟨u0,hu0⟩:∃u,u=(((s.set b3 (.obj 24 [.ptr x 0])).set b4 (.obj 30 [.lst SA1 o1,.lst V1 o2,.int .i64 (kf:Int)])).set b5 (.obj 30 [.lst SA2 o3,.lst V2 o4,.int .i64 (kh:Int)])).set b6 (.obj 30 [.lst [] .full,.lst [] .full,.int .i64 0]):=⟨_,rfl⟩
 rw[<- hu0]
 have g0:∀z,s z≠.free->u0 z=s z:=fun z hz=>by rw[hu0,j_ _ _ (nef hb6 hz).1,j_ _ _ (nef hb5 hz).1,j_ _ _ (nef hb4 hz).1,j_ _ _ (nef hb3 hz).1]
 have k3:u0 b3=.obj 24 [.ptr x 0]:=by rw[hu0,j_ _ _ (by assumption),j_ _ _ (by assumption),j_ _ _ (by assumption),q_]
 have k6:u0 b6=.obj 30 [.lst [] .full,.lst [] .full,.int .i64 0]:=by rw[hu0,q_]
 have wb:=WB.out u0 b3 g0 k3
 have HRS:=o_ (HR0.out u0 g0)
 have G0:=o_ (And.intro g0 hb6)
 clear hu0 hb g0 k3 WB hb3 hb4 hb5 hb6
 refine ao GQ wb (fun a h=>?_)
 obtain⟨u1,K1,m1,ns1⟩:=a
 have j6:=h.own (HM.out.more G0.out.1) k6 (by decide) (by decide) (by decide) (by decide)
 have HR1:=o_ (HRS.out.then h)
 dsimp only at j6 HR1 ⊢
 clear h wb k6
 generalize hGG:(fun y=>ff y && !rnF (aX (aj o D2) (aj o (aK A1 D1 A2))) fh y)=GG at *
 have HGG:=o_ hGG
 clear hGG
 generalize hkp:ixF n ns1 GG=kp at *
 have HKP:=o_ hkp
 clear hkp
 simp only[go_sem,seval,j6]
 (repeat'(first|refine Ctl ?_|((with_reducible refine k_ hK ?_);clear hK hE K E)))
 all_goals(refine aq Gt hQ ?_)
 all_goals refine⟨_,_,Wk.refl _,Fg.refl _,(St.set _ b6 _,K1,m1,ns1),?_,rfl,?_⟩
 ·exact congrArg (fun z:Nat=>SEnd.ret (.tup [.agg [.lst SA1 .no,.lst V1 .no,.int .i64 (z:Int)],.int .i64 0])) HKP.out.symm
 ·exact HR1.out.finG fun z hz=>by
   by_cases e6:z=b6
   ·subst e6;exact .inr ⟨⟨_,j6⟩,fun e=>absurd G0.out.2 e⟩
   ·exact .inl (j_ _ _ e6)
end Go.Proofs.YtohnaepcgnbaiaaGreatDoor
namespace Go.Proofs.YtohnaepcgnbaiaaGreatDoor
open Go.RowKit
attribute [-go_sem] bJ cX bH bG aT cU cT
section
variable {s u : St} {K : OB} {x m q c : Nat} {ns : List Tr} {i N N' : Nat} {A A2 : List (List UInt8)} {D D2 : List Nat}
theorem RLaw.or (L:RLaw s u K x m q c ns i N){S S2 S':List Nat->Prop}{f g:(Nat->Bool)->Bool}{k k2:Nat}(hT:Tells (oR i) D S f)(hk:Nod ns f k)(o1 o2:Own)(hn:bi A)(hl:A.length=D.length)(hd:D.Nodup)(h4:∀d,d∈D->d<4)
  (hT2:Tells (oR i) D2 S2 g) (hk2:Nod ns g k2) (o3 o4:Own) (hn2:bi A2) (hl2:A2.length=D2.length) (hd2:D2.Nodup) (h42:∀d,d∈D2->d<4) (hsub:∀a,a∈A2->a∈A) (hlen:A2.length=A.length) {Dk:List Nat} (hDk:aK A D A2=Dk) (hkn:Dk.Nodup) (hkt:∀k,k∈Dk->k∈D)
  (hS:∀G,Tells (oR i) Dk S2 G->Tells (oR i) D S' (fun y=>f y || G y))
  (hN:N+(2 * D2.length+2) * 2 ^ (2 * D2.length)+2 ^ (2 * D.length)<=N') (hB:N'<=65536) :
  SCalls Tryz.prog 17 [.ptr x 0,.agg [.lst (az A) o1,.lst (ak D) o2,.int .i64 (k:Nat)],.agg [.lst (az A2) o3,.lst (ak D2) o4,.int .i64 (k2:Nat)]] u fun w u'=>∃a:tU,w=.ret (.tup [.agg (dM A D a.1.2.2.2.2),.int .i64 0])/\u'=a.1.1/\ResT s u ns x q c i N' D S' a:=by
 subst hDk
 have hvl:=dE L.i3 h42
 have hvq:=dE L.i3 h4
 have h:=Qx (by omega) L.M L.D A o1 D o2 (L.r4 hn hl hd h4) hT.dep hk.mem A2 o3 D2 o4 (L.r4 hn2 hl2 hd2 h42) hT2.dep hk2.mem hsub hlen hkn hkt L.n (by rw[hvl,hvq];omega)
 rw[hk.ix,hk2.ix,hvl,hvq]at h
 refine SCalls.mono (h:=h) ?_
 rintro w u' ⟨a,rfl,rfl,h⟩
 have hkl:(aK A D A2).length=D2.length:=by rw[dp,hl2]
 exact⟨_,rfl,rfl,L.res h hN (hS _ (hT2.turn L.D hkl (fun k hk=>⟨by have:=h42 k hk;show k<7;omega,L.w2 (by have:=h42 k hk;omega)⟩) (fun k hk=>L.w2 (by have:=h4 k (hkt k hk);omega)) hd2))⟩
theorem RLaw.not (L:RLaw s u K x m q c ns i N){S S2 S':List Nat->Prop}{f g:(Nat->Bool)->Bool}{k k2:Nat}(hT:Tells (oR i) D S f)(hk:Nod ns f k)(o1 o2:Own)(hn:bi A)(hl:A.length=D.length)(hd:D.Nodup)(h4:∀d,d∈D->d<4)
  (hT2:Tells (oR i) D2 S2 g) (hk2:Nod ns g k2) (o3 o4:Own) (hn2:bi A2) (hl2:A2.length=D2.length) (hd2:D2.Nodup) (h42:∀d,d∈D2->d<4) (hsub:∀a,a∈A2->a∈A) (hlen:A2.length=A.length) {Dk:List Nat} (hDk:aK A D A2=Dk) (hkn:Dk.Nodup) (hkt:∀k,k∈Dk->k∈D)
  (hS:∀G,Tells (oR i) Dk S2 G->Tells (oR i) D S' (fun y=>f y && !G y))
  (hN:N+(2 * D2.length+2) * 2 ^ (2 * D2.length)+2 ^ (2 * D.length)<=N') (hB:N'<=65536) :
  SCalls Tryz.prog 18 [.ptr x 0,.agg [.lst (az A) o1,.lst (ak D) o2,.int .i64 (k:Nat)],.agg [.lst (az A2) o3,.lst (ak D2) o4,.int .i64 (k2:Nat)]] u fun w u'=>∃a:tU,w=.ret (.tup [.agg (dM A D a.1.2.2.2.2),.int .i64 0])/\u'=a.1.1/\ResT s u ns x q c i N' D S' a:=by
 subst hDk
 have hvl:=dE L.i3 h42
 have hvq:=dE L.i3 h4
 have h:=MA (by omega) L.M L.D A o1 D o2 (L.r4 hn hl hd h4) hT.dep hk.mem A2 o3 D2 o4 (L.r4 hn2 hl2 hd2 h42) hT2.dep hk2.mem hsub hlen hkn hkt L.n (by rw[hvl,hvq];omega)
 rw[hk.ix,hk2.ix,hvl,hvq]at h
 refine SCalls.mono (h:=h) ?_
 rintro w u' ⟨a,rfl,rfl,h⟩
 have hkl:(aK A D A2).length=D2.length:=by rw[dp,hl2]
 exact⟨_,rfl,rfl,L.res h hN (hS _ (hT2.turn L.D hkl (fun k hk=>⟨by have:=h42 k hk;show k<7;omega,L.w2 (by have:=h42 k hk;omega)⟩) (fun k hk=>L.w2 (by have:=h4 k (hkt k hk);omega)) hd2))⟩
end
end Go.Proofs.YtohnaepcgnbaiaaGreatDoor
