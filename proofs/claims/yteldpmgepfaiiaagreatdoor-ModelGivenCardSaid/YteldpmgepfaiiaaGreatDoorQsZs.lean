/- Walks of functions, and plain facts. Conditions: those in the statements. -/
import Derived.Test.YteldpmgepfaiiaaGreatDoorQsZo
import Derived.Test.YteldpmgepfaiiaaGreatDoorQsZp
set_option linter.unusedSimpArgs false
set_option linter.unusedVariables false
set_option maxRecDepth 100000
namespace Go.Proofs.YteldpmgepfaiiaaGreatDoor
open Go.RowKit
attribute [local go_sem] aH aV cH
def gvR (x:Pgm)(g:List Tbl)(i:Nat)(n:List UInt8)(rs:List (List Int))(k:Nat):List Rul:=x.rules++eO (g.take i)++(rs.take k).map (gS n)
theorem Fd {x:Pgm}{g:List Tbl}{i:Nat}{n:List UInt8}{rs:List (List Int)}:gvR x g i n rs 0=x.rules++eO (g.take i):=by simp[gvR]
theorem D5 {x:Pgm}{g:List Tbl}{i:Nat}{n:List UInt8}{rs:List (List Int)}(h:g[i]?=some ⟨n,rs⟩):gvR x g i n rs rs.length=x.rules++eO (g.take (i+1)):=by
 unfold gvR
 rw[bY h,f_,List.append_assoc]
 simp[eO,xB]
theorem By {x:Pgm}{g:List Tbl}{i:Nat}{n:List UInt8}{rs:List (List Int)}{k:Nat}{r:List Int}(h:rs[k]?=some r):gvR x g i n rs (k+1)=gvR x g i n rs k++[gS n r]:=by
 unfold gvR
 rw[bY h,List.map_append,<- List.append_assoc]
 rfl
def gvL (x:Pgm)(g:List Tbl)(i:Nat):List Rul:=x.rules++eO (g.take i)
theorem Fe {x:Pgm}{g:List Tbl}:gvL x g 0=x.rules:=by simp[gvL,eO]
theorem BD {g:List Tbl}(h:∀y,y∈g->y.rs.length<=60):(eO g).length<=g.length*60:=by
 induction g with
 |nil=>simp[eO]
 |cons a g ih=>
  have h1:=h a (by simp)
  have h2:=ih fun y hy=>h y (by simp[hy])
  simp only[eO,List.flatMap_cons,d_,List.length_cons,xB,a_]at h2 ⊢
  omega
theorem D4 {x:Pgm}{g:List Tbl}{i:Nat}{n:List UInt8}{rs:List (List Int)}{k:Nat}(hx:x.rules.length<=80)(hg:rM g)(hr:rs.length<=60):(gvR x g i n rs k).length<=2000:=by
 have h1:=BD (g:=g.take i) fun y hy=>(hg.2 y (List.mem_of_mem_take hy)).1
 have h2:(g.take i).length<=20:=by rw[A_];have:=hg.1;omega
 have h3:(rs.take k).length<=60:=by rw[A_];omega
 unfold gvR
 simp only[d_,a_]
 omega
set_option maxHeartbeats 16000000 in
theorem rV (x:Pgm)(g:List Tbl)(oL:Own)(hx:PgmOk x)(hg:rL g)(t:St):SRet Tryz.prog 7 [.agg (pgC x),.lst (g.map aX) oL] t (.bool true) t:=by
  have hlr:(x.rules.map ax).length=x.rules.length:=by simp
  have hlg:(g.map aX).length=g.length:=by simp
  have hrl:=hx.2.2.1
  by_cases hFL:wm x/\we x
  · obtain⟨hF,hL⟩:=hFL
    obtain⟨w1,w2⟩:=yi x hx hF
    by_cases hS:rM g
    · have hds:∀d,d∈x.doms->d.size<=256:=fun d hd=>by have:=hL d hd;omega
      have hdv:(8:Int)<da x.doms [86]↔False:=by
        have:=kW (ds:=x.doms) (m:=8) hL (by decide) [86]
        exact⟨fun h=>by omega,False.elim⟩
      have hdv2:=eq_false (fun h=>hdv.1 h)
      have w3:∀s,SCalls Tryz.prog 11 [.lst (g.map aX) oL] s fun w u=>∃r:Bool,w=.ret (.bool r)/\u=s/\True:=fun s=>SCalls.mono (uy g oL hg s) fun w u ⟨r,h1,h2,_⟩=>⟨r,h1,h2,trivial⟩
      have w4:∀s,SCalls Tryz.prog 13 [.agg (pgC x),.lst (g.map aX) oL] s fun w u=>∃q:List Tbl×Int×Bool,w=.ret (.tup [.lst (q.1.map aX) .no,.int .i64 q.2.1,.bool q.2.2])/\u=s/\True:=fun s=>
        SCalls.mono (yf x g oL hx hds (by have:=hS.1;omega) (fun t ht=>⟨by have:=(hS.2 t ht).1;omega,fun r hr=>by have:=(hS.2 t ht).2 r hr;omega⟩) s) fun w u ⟨q,h1,h2,_⟩=>⟨q,h1,h2,trivial⟩
      have w5:=fun s=>rW x g oL hx hds (by have:=hS.1;omega) (fun t ht=>⟨by have:=(hS.2 t ht).1;omega,fun r hr=>by have:=(hS.2 t ht).2 r hr;omega⟩) s
      have w7:=fun s=>rT x [86] hx.1 s
      have w8:=fun s=>uq x g oL hx (by have:=hS.1;omega) (fun t ht=>⟨by have:=(hS.2 t ht).1;omega,fun r hr=>by have:=(hS.2 t ht).2 r hr;omega⟩) s
      have hfr:=hF.2.2.1
      simp only[pgC]at w1 w2 w4 w5 w7 w8 ⊢
      cases hT:cQ x [] g with
      |false=>
        rw[hT]at w8
        clear hF hL hS hx hg hds
        refine aw Tryz.func7 rfl Tryz.ntmps7 rfl fun Q hQ hQe=>?_
        (repeat'(first|refine Ctl ?_|((with_reducible refine j_ hK ?_);clear hK hE K E)|((with_reducible refine aj (fun h=>?_) (fun h=>?_))<;>(try(exfalso;assumption)))|((first|(with_reducible first|refine ae fun K E hK hE=>?_|refine ak jP (w7 _) ?_|refine ak xQ (w8 _) ?_|refine ak gm (gq _) ?_)|((with_reducible refine aO tR (w1 _) (fun a h=>?_)))|((with_reducible refine aO qu (w2 _) (fun a h=>?_)))|((with_reducible refine aO Ch (w3 _) (fun a h=>?_)))|((with_reducible refine aO Cc (w4 _) (fun a h=>?_)))|((with_reducible refine ao (fun b hb=>?_)))|((with_reducible refine dy (fun h=>?_) (fun h=>?_))))<;>(try simp(disch:=omega) only[go_sem,seval, *]))))
        all_goals(refine ap nK hQ ?_)
        all_goals exact⟨_,t,Wk.refl _,v_ _ hb,rfl,rfl⟩
      |true=>
        rw[hT]at w8
        have HX:=u_ hx
        have HDS:=u_ hds
        have HS:=u_ hS
        have HT:=u_ hT
        have HG:=u_ hg
        have hg20:=hS.1
        have hr4:∀y,y∈x.rules.map ax->y.length=4:=by
          intro y hy
          obtain⟨r,_,rfl⟩:=E_.1 hy
          rfl
        clear hF hL hS hx hg hds hT
        refine aw Tryz.func7 rfl Tryz.ntmps7 rfl fun Q hQ hQe=>?_
        (repeat'(first|refine Ctl ?_|((with_reducible refine j_ hK ?_);clear hK hE K E)|((with_reducible refine aj (fun h=>?_) (fun h=>?_))<;>(try(exfalso;assumption)))|((first|(with_reducible first|refine ae fun K E hK hE=>?_|refine ak jP (w7 _) ?_|refine ak xQ (w8 _) ?_|refine ak gm (gq _) ?_)|((with_reducible refine aO tR (w1 _) (fun a h=>?_)))|((with_reducible refine aO qu (w2 _) (fun a h=>?_)))|((with_reducible refine aO Ch (w3 _) (fun a h=>?_)))|((with_reducible refine aO Cc (w4 _) (fun a h=>?_)))|((with_reducible refine ao (fun b hb=>?_));(repeat(obtain⟨_,hb⟩:=hb)))|((with_reducible refine cq (fun o2 ho=>?_));(try simp(disch:=assumption) only[bc,aH]at ho);(repeat(obtain⟨_,ho⟩:=ho)))|((with_reducible refine dy (fun h=>?_) (fun h=>?_))))<;>(try simp(disch:=first|assumption|omega) only[go_sem,seval,aH, *]))))
        all_goals first
          | ((first | refine ap nK hQ ?_ | refine en nK hQ ?_ | refine jm hQ ?_)
             exact⟨_,t,Wk.refl _,v_ _ hb,rfl,rfl⟩)
          |skip
        obtain⟨bq,hbq⟩:∃z,z=b:=⟨_,rfl⟩
        subst hbq
        obtain⟨bp,hbp⟩:∃z,z=b:=⟨_,rfl⟩
        subst hbp
        have hTp:t bp=.free:=by assumption
        have hTq:t bq=.free:=by assumption
        have hne1:¬ bq=bp:=by assumption
        have hne2:¬ bp=bq:=by assumption
        refine aI (fun m env s'=>∃(i:Nat) (o:Own),i<=g.length/\m+i=g.length/\OwnOk t o (gvL x g i).length/\ay o bp/\ay o bq /\
          s'=((t.own o 43 4 (gvL x g i).length).set bp (.obj 26 [.lst (x.doms.map dmC) .no,.lst (x.decls.map az) .no,.lst (x.rules.map ax) .no])).set bq (.obj 26 [.lst (x.doms.map dmC) .no,.lst (x.decls.map az) .no,.lst ((gvL x g i).map ax) o])/\Hid (∀y,y∈g.take i->y.nm≠[100,111,109]/\y.nm≠[114,101,108]) /\
          env 1=.lst (g.map aX) oL/\env 2=.ptr bp 0/\env 8=.ptr bq 0/\env 9=.int .i64 i) g.length ?_ ?_
        · exact⟨_,Fg.refl _,0,o2,by omega,by omega,by rw[Fe];exact ho,‹_›,‹_›,by rw[Fe],u_ (fun y hy=>by simp at hy),ab,ab,ab,ab⟩
        clear ho
        rintro m env s' ⟨i,o,hi,hm,ho,hop,hoq,rfl,HN,e1,e2,e8,e9⟩
        by_cases hlt:i<g.length
        · obtain⟨tb,htb⟩:=aN hlt
          have hst:=dZ htb
          have hsm:=HS.out.2 tb (p_ htb)
          have HTB:=u_ htb
          obtain⟨nm,rs⟩:=tb
          simp only[aX]at hst
          simp only at hsm
          have hrl2:(aF rs).length=rs.length:=rowsV_len
          have hrs60:=hsm.1
          have HR20:=u_ hsm.2
          clear htb hsm
          (repeat'(first|refine Ctl ?_|((with_reducible refine j_ hK ?_);clear hK hE K E)|((with_reducible refine aj (fun h=>?_) (fun h=>?_))<;>(try(exfalso;assumption)))|(((with_reducible refine ae fun K E hK hE=>?_))<;>(try simp(disch:=omega) only[go_sem,seval, *]))))
          refine ef (fun m2 env s2=>∃(k N:Nat) (o:Own),k<=rs.length/\m2+k=rs.length/\N=(gvR x g i nm rs k).length/\OwnOk t o N/\ay o bp/\ay o bq /\
            s2=((t.own o 43 4 N).set bp (.obj 26 [.lst (x.doms.map dmC) .no,.lst (x.decls.map az) .no,.lst (x.rules.map ax) .no])).set bq (.obj 26 [.lst (x.doms.map dmC) .no,.lst (x.decls.map az) .no,.lst ((gvR x g i nm rs k).map ax) o]) /\
            env 1=.lst (g.map aX) oL/\env 2=.ptr bp 0/\env 8=.ptr bq 0/\env 9=.int .i64 i/\env 10=.int .i64 k) rs.length ?_ ?_
          · exact⟨_,GS.refl _,0,(gvL x g i).length,o,by omega,by omega,by rw[Fd];rfl,ho,hop,hoq,by rw[Fd];rfl,ab,ab,ab,ab,ab⟩
          clear e1 e2 e8 e9 env ho hop hoq o
          rintro m2 env s2 ⟨k,N,o,hk,hm2,hN,ho,hop,hoq,rfl,e1,e2,e8,e9,e10⟩
          by_cases hlk:k<rs.length
          · obtain⟨r,hr⟩:=aN hlk
            have hsr:=dK hr
            have hr20:=HR20.out r (p_ hr)
            have HSC:=u_ (By (x:=x) (g:=g) (i:=i) (n:=nm) hr)
            have hN2:N<=2000:=by rw[hN];exact D4 hfr HS.out hrs60
            have hln:((gvR x g i nm rs k).map ax).length=N:=by rw[a_];exact hN.symm
            have hil:(aB r).length=r.length:=bH
            have HN1:=u_ hN
            clear hr hN
            have hWe:∃W,W=((t.own o 43 4 N).set bp (.obj 26 [.lst (x.doms.map dmC) .no,.lst (x.decls.map az) .no,.lst (x.rules.map ax) .no])).set bq (.obj 26 [.lst (x.doms.map dmC) .no,.lst (x.decls.map az) .no,.lst ((gvR x g i nm rs k).map ax) o]):=⟨_,rfl⟩
            obtain⟨W,hW⟩:=hWe
            have hWq:W bq=(.obj 26 [.lst (x.doms.map dmC) .no,.lst (x.decls.map az) .no,.lst ((gvR x g i nm rs k).map ax) o]):=by rw[hW,q_]
            have hWp:W bp=.obj 26 [.lst (x.doms.map dmC) .no,.lst (x.decls.map az) .no,.lst (x.rules.map ax) .no]:=by rw[hW,k_ _ _ hne2,q_]
            rw[<- hW]
            have HW:=u_ hW
            have hWpf:W bp≠.free:=by rw[hWp];simp
            have hWqf:W bq≠.free:=by rw[hWq];simp
            clear hW
            (repeat'(first|refine Ctl ?_|((with_reducible refine j_ hK ?_);clear hK hE K E)|((with_reducible refine aj (fun h=>?_) (fun h=>?_))<;>(try(exfalso;assumption)))|((first|(with_reducible refine ae fun K E hK hE=>?_)|((with_reducible refine ao (fun b hb=>?_));(try(obtain⟨_,_⟩:=nef hb hWpf;obtain⟨_,_⟩:=nef hb hWqf))))<;>(try simp(disch:=omega) only[go_sem,seval, *]))))
            obtain⟨bh,hbh⟩:∃z,z=b:=⟨_,rfl⟩
            subst hbh
            have HBH:=u_ hb
            have nbq:¬ bh=bq:=by assumption
            have nbp:¬ bh=bp:=by assumption
            refine aI (fun m3 env s3=>∃(j:Nat) (o3:Own),j<=r.length/\m3+j=r.length/\OwnOk W o3 j/\ay o3 bh /\
              s3=(W.own o3 53 3 j).set bh (.obj 40 [.bool false,.str nm,.lst ((r.take j).map fun z=>aC (jL z)) o3]) /\
              env 1=.lst (g.map aX) oL/\env 2=.ptr bp 0/\env 8=.ptr bq 0/\env 9=.int .i64 i/\env 10=.int .i64 k/\env 11=.ptr bh 0/\env 12=.int .i64 j) r.length ?_ ?_
            · exact⟨_,Fg.refl _,0,.full,by omega,by omega,b9,trivial,rfl,ab,ab,ab,ab,ab,ab,ab⟩
            clear e1 e2 e8 e9 e10 env hb
            rintro m3 env s3 ⟨j,o3,hj,hm3,ho3,ho3h,rfl,e1,e2,e8,e9,e10,e11,e12⟩
            by_cases hlj:j<r.length
            · obtain⟨z,hz⟩:=aN hlj
              have hsz:=cD hz
              have HZ:=u_ (show (r.take (j+1)).map (fun z=>aC (jL z))=(r.take j).map (fun z=>aC (jL z))++[[.bool false,.str [],.int .i64 z]] by rw[bY hz,List.map_append];rfl)
              have hlm:((r.take j).map fun z=>aC (jL z)).length=j:=by rw[a_,A_];omega
              clear hz
              generalize (r.take j).map (fun z=>aC (jL z))=TL at *
              (repeat'(first|refine Ctl ?_|(with_reducible first|(refine j_ hK ?_;clear hK hE K E)|(refine j_ hKh ?_;clear hKh Kh)|(refine j_ hKb (aL ?_);clear hKb Kb)|refine aq 18 [([0,1,2,3,4,5,6,7,8,9,10,11,12,13,14],15,[[]]),([16],17,[[],[]])] [] hQe fun K E hK hE=>?_)|((with_reducible refine aj (fun h=>?_) (fun h=>?_))<;>(try(exfalso;assumption)))|((first|(with_reducible first|refine ae fun K E hK hE=>?_|refine aE fun Kh hKh=>?_|refine aD fun Kh hKh=>?_|refine aM fun Kb hKb=>?_)|((with_reducible refine cq (fun o2 ho=>?_));(try simp(disch:=assumption) only[hlm]at ho);(repeat(obtain⟨_,ho⟩:=ho))))<;>(try simp(disch:=first|assumption|omega) only[go_sem,seval, *]))))
              all_goals exact⟨_,Fg.refl _,m3 - 1,by omega,j+1,o2,by omega,by omega,ho,‹_›,by rw[HZ.out],ab,ab,ab,ab,ab,ab,ab⟩
            · obtain rfl:j=r.length:=by omega
              rw[f_]
              refine ee (s':=W.set bh (.obj 40 [.bool false,.str nm,.lst (r.map fun z=>aC (jL z)) o3])) (Fg.set (Fg.own ho3) _ _) ?_
              have hbh:=HBH.out
              have hwe:=HW.out
              rw[hwe,k_ _ _ nbq,k_ _ _ nbp,aR]at hbh
              obtain⟨hoh,hbh⟩:=hbh
              subst hwe
              clear hWq hWp hWpf hWqf HW HBH ho3 ho3h
              (repeat'(first|refine Ctl ?_|((with_reducible refine j_ hK ?_);clear hK hE K E)|((with_reducible refine aj (fun h=>?_) (fun h=>?_))<;>(try(exfalso;assumption)))|((first|(with_reducible refine ae fun K E hK hE=>?_)|((with_reducible refine cq (fun o2 ho=>?_));(repeat(obtain⟨_,ho⟩:=ho))))<;>(try simp(disch:=first|assumption|omega) only[go_sem,seval, *]))))
              refine⟨_,(GS.of_fg (v_ _ (by rw[k_ _ _ nbq,k_ _ _ nbp,aR];exact⟨‹_›,hbh⟩))).trans (GS.wkobj (b:=bq) (ys:=[.lst (x.doms.map dmC) .no,.lst (x.decls.map az) .no,.lst ((gvR x g i nm rs (k+1)).map ax) o2]) (q_ _ _ _) rfl (fun j y hy=>?_)),
                m2 - 1,by omega,k+1,N+1,o2,by omega,by omega,by rw[HSC.out,d_,<- HN1.out];rfl,by rw[HN1.out];exact ho,‹_›,‹_›,by rw[St.set_set],ab,ab,ab,ab,ab⟩
              match j with
              |0=>simp at hy;subst hy;exact⟨_,rfl,Wk.refl _,id⟩
              |1=>simp at hy;subst hy;exact⟨_,rfl,Wk.refl _,id⟩
              |2=>
                simp at hy;subst hy
                refine⟨_,rfl,?_,id⟩
                have he:[gS nm r].map ax=[[.bool false,.str nm,.lst (r.map fun z=>aC (jL z)) .no,.lst [] .no]]:=by simp[ax,gS,Function.comp_def]
                rw[HSC.out,List.map_append,he]
                exact Wk.rows (by simp) (yM (.same _ (.same _ (.lst _ _ (.lst _ _ .nil)))))
              |j+3=>simp at hy
          · obtain rfl:k=rs.length:=by omega
            have hge:gvR x g i nm rs rs.length=gvL x g (i+1):=D5 HTB.out
            rw[hge]at hN ⊢
            subst hN
            have HFZ:Hid (Fg (((t.own o 43 4 (gvL x g (i+1)).length).set bp (.obj 26 [.lst (x.doms.map dmC) .no,.lst (x.decls.map az) .no,.lst (x.rules.map ax) .no])).set bq (.obj 26 [.lst (x.doms.map dmC) .no,.lst (x.decls.map az) .no,.lst ((gvL x g (i+1)).map ax) o])) t):=u_ (w_ (w_ (Fg.own ho) hTp) hTq)
            clear hge
            by_cases h1:nm=[100,111,109]
            · have hT1:(nm=[100,111,109])=True:=eq_true h1
              clear h1
              (repeat'(first|refine Ctl ?_|((with_reducible refine j_ hK ?_);clear hK hE K E)|((with_reducible refine aj (fun h=>?_) (fun h=>?_))<;>(try(exfalso;assumption)))|(((with_reducible first|refine ae fun K E hK hE=>?_|refine ak gm (gq _) ?_))<;>(try simp(disch:=omega) only[go_sem,seval, *]))))
              all_goals(refine ap nK hQ ?_)
              all_goals exact⟨_,t,Wk.refl _,HFZ.out,rfl,rfl⟩
            · have hT1:(nm=[100,111,109])=False:=eq_false h1
              by_cases h2:nm=[114,101,108]
              · have hT2:(nm=[114,101,108])=True:=eq_true h2
                clear h1 h2
                (repeat'(first|refine Ctl ?_|((with_reducible refine j_ hK ?_);clear hK hE K E)|((with_reducible refine aj (fun h=>?_) (fun h=>?_))<;>(try(exfalso;assumption)))|(((with_reducible first|refine ae fun K E hK hE=>?_|refine ak gm (gq _) ?_))<;>(try simp(disch:=omega) only[go_sem,seval, *]))))
                all_goals(refine ap nK hQ ?_)
                all_goals exact⟨_,t,Wk.refl _,HFZ.out,rfl,rfl⟩
              · have hT2:(nm=[114,101,108])=False:=eq_false h2
                have HN2:Hid (∀y,y∈g.take (i+1)->y.nm≠[100,111,109]/\y.nm≠[114,101,108]):=u_ fun y hy=>by
                  rw[bY HTB.out]at hy
                  rcases l_.1 hy with h|h
                  · exact HN.out y h
                  · rw[e_]at h;subst h;exact⟨h1,h2⟩
                clear h1 h2
                (repeat'(first|refine Ctl ?_|((with_reducible refine j_ hK ?_);clear hK hE K E)|((with_reducible refine aj (fun h=>?_) (fun h=>?_))<;>(try(exfalso;assumption)))|(((with_reducible refine ae fun K E hK hE=>?_))<;>(try simp(disch:=omega) only[go_sem,seval, *]))))
                all_goals exact⟨_,Fg.refl _,m - 1,by omega,i+1,o,by omega,by omega,ho,hop,hoq,rfl,HN2,ab,ab,ab,ab⟩
        · obtain rfl:i=g.length:=by omega
          have hgl:gvL x g g.length=(gvP x g).rules:=by unfold gvL gvP;rw[f_]
          rw[hgl]at ho ⊢
          have hln:((gvP x g).rules.map ax).length=(gvP x g).rules.length:=by simp
          have hFZ:Fg (((t.own o 43 4 (gvP x g).rules.length).set bp (.obj 26 [.lst (x.doms.map dmC) .no,.lst (x.decls.map az) .no,.lst (x.rules.map ax) .no])).set bq (.obj 26 [.lst (x.doms.map dmC) .no,.lst (x.decls.map az) .no,.lst ((gvP x g).rules.map ax) o])) t:=w_ (w_ (Fg.own ho) hTp) hTq
          have hZp:(((t.own o 43 4 (gvP x g).rules.length).set bp (.obj 26 [.lst (x.doms.map dmC) .no,.lst (x.decls.map az) .no,.lst (x.rules.map ax) .no])).set bq (.obj 26 [.lst (x.doms.map dmC) .no,.lst (x.decls.map az) .no,.lst ((gvP x g).rules.map ax) o])) bp=.obj 26 [.lst (x.doms.map dmC) .no,.lst (x.decls.map az) .no,.lst (x.rules.map ax) .no]:=by rw[k_ _ _ hne2,q_]
          have hZq:(((t.own o 43 4 (gvP x g).rules.length).set bp (.obj 26 [.lst (x.doms.map dmC) .no,.lst (x.decls.map az) .no,.lst (x.rules.map ax) .no])).set bq (.obj 26 [.lst (x.doms.map dmC) .no,.lst (x.decls.map az) .no,.lst ((gvP x g).rules.map ax) o])) bq=.obj 26 [.lst (x.doms.map dmC) .no,.lst (x.decls.map az) .no,.lst ((gvP x g).rules.map ax) o]:=q_ _ _ _
          generalize ((t.own o 43 4 (gvP x g).rules.length).set bp (.obj 26 [.lst (x.doms.map dmC) .no,.lst (x.decls.map az) .no,.lst (x.rules.map ax) .no])).set bq (.obj 26 [.lst (x.doms.map dmC) .no,.lst (x.decls.map az) .no,.lst ((gvP x g).rules.map ax) o])=Z at *
          have HFZ:=u_ hFZ
          clear hFZ ho hop hoq hTp hTq hi hm w1 w2 w3 w4 w7 w8
          by_cases h64:64<(gvP x g).rules.length
          · have hT:((64:Int)<((gvP x g).rules.length:Int))=True:=eq_true (by omega)
            (repeat'(first|refine Ctl ?_|((with_reducible refine j_ hK ?_);clear hK hE K E)|((with_reducible refine aj (fun h=>?_) (fun h=>?_))<;>(try(exfalso;assumption)))|(((with_reducible first|refine ae fun K E hK hE=>?_|refine ak gm (gq _) ?_))<;>(try simp(disch:=omega) only[go_sem,seval, *]))))
            all_goals(refine ap nK hQ ?_)
            all_goals exact⟨_,t,Wk.refl _,HFZ.out,rfl,rfl⟩
          · have hT:((64:Int)<((gvP x g).rules.length:Int))=False:=eq_false (by omega)
            have hgv:GvFit x g:=⟨HT.out,fun y hy=>HN.out y (by rw[f_];exact hy),by show (gvP x g).rules.length<=64;omega,HDS.out⟩
            have w6:=fun o1 o2 o3 oL s=>qW (HX.out.gv hgv (fun y hy=>⟨(HG.out.2 y hy).1,(HG.out.2 y hy).2.2⟩)) HDS.out o1 o2 o3 oL s
            rw[show (gvP x g).doms=x.doms from rfl,show (gvP x g).decls=x.decls from rfl]at w6
            have HGP:=u_ fun(L M:List Tbl) (e f:Int) (h1:bQ x g L e) (h2:bQ (gvP x g) [] M f)=>And.intro (vH hgv h1 h2) (ql (x:=gvP x g) HDS.out h2)
            clear hgv
            (repeat'(first|refine Ctl ?_|((with_reducible refine j_ hK ?_);clear hK hE K E)|((with_reducible refine aj (fun h=>?_) (fun h=>?_))<;>(try(exfalso;assumption)))|(((with_reducible refine ae fun K E hK hE=>?_))<;>(try simp(disch:=omega) only[go_sem,seval, *]))))
            refine aO tW (w5 _) (fun q1 h1=>?_)
            simp only[go_sem,seval]
            (repeat'(first|refine Ctl ?_|((with_reducible refine j_ hK ?_);clear hK hE K E)|(((with_reducible refine ae fun K E hK hE=>?_))<;>(try simp(disch:=omega) only[go_sem,seval, *]))))
            refine aO tW (w6 _ _ _ _ _) (fun q3 h2=>?_)
            obtain⟨⟨e1',e2'⟩,her⟩:=HGP.out _ _ _ _ h1 h2
            obtain⟨L,e⟩:=q1
            obtain⟨M,f⟩:=q3
            simp only at e1' e2' her
            subst e1'
            subst e2'
            have ws:=fun s=>ya M .no .no her s
            clear h1 h2 HGP
            simp only[go_sem,seval]
            (repeat'(first|refine Ctl ?_|((with_reducible refine j_ hK ?_);clear hK hE K E)|(((with_reducible first|refine ae fun K E hK hE=>?_|refine ak Fv (ws _) ?_|refine ak gm (gq _) ?_))<;>(try simp(disch:=omega) only[go_sem,seval, *]))))
            all_goals(refine ap nK hQ ?_)
            all_goals exact⟨_,t,Wk.refl _,HFZ.out,rfl,rfl⟩
    · have w3:∀s,SRet Tryz.prog 11 [.lst (g.map aX) oL] s (.bool false) s:=fun s=>SCalls.mono (uy g oL hg s) fun w u ⟨r,h1,h2,h3⟩=>by
        cases r with
        |false=>exact⟨h1,h2⟩
        |true=>exact absurd (h3 rfl) hS
      simp only[pgC]at w1 w2 ⊢
      clear hF hL hS hx hg
      refine aw Tryz.func7 rfl Tryz.ntmps7 rfl fun Q hQ hQe=>?_
      (repeat'(first|refine Ctl ?_|((with_reducible refine j_ hK ?_);clear hK hE K E)|((with_reducible refine aj (fun h=>?_) (fun h=>?_))<;>(try(exfalso;assumption)))|((first|(with_reducible first|refine ae fun K E hK hE=>?_|refine ak Ch (w3 _) ?_|refine ak gm (gq _) ?_)|((with_reducible refine aO tR (w1 _) (fun a h=>?_)))|((with_reducible refine aO qu (w2 _) (fun a h=>?_)))|((with_reducible refine ao (fun b hb=>?_)))|((with_reducible refine dy (fun h=>?_) (fun h=>?_))))<;>(try simp(disch:=omega) only[go_sem,seval, *]))))
      all_goals(refine ap nK hQ ?_)
      all_goals exact⟨_,t,Wk.refl _,v_ _ hb,rfl,rfl⟩
  · rcases yg x hx hFL with w1|⟨w1,w2⟩
    · clear hFL hx hg
      simp only[pgC]at w1 ⊢
      refine aw Tryz.func7 rfl Tryz.ntmps7 rfl fun Q hQ hQe=>?_
      (repeat'(first|refine Ctl ?_|((with_reducible refine j_ hK ?_);clear hK hE K E)|((with_reducible refine aj (fun h=>?_) (fun h=>?_))<;>(try(exfalso;assumption)))|((first|(with_reducible first|refine ae fun K E hK hE=>?_|refine ak tR (w1 _) ?_|refine ak gm (gq _) ?_)|((with_reducible refine ao (fun b hb=>?_))))<;>(try simp(disch:=omega) only[go_sem,seval, *]))))
      all_goals(refine ap nK hQ ?_)
      all_goals exact⟨_,t,Wk.refl _,v_ _ hb,rfl,rfl⟩
    · clear hFL hx hg
      simp only[pgC]at w1 w2 ⊢
      refine aw Tryz.func7 rfl Tryz.ntmps7 rfl fun Q hQ hQe=>?_
      (repeat'(first|refine Ctl ?_|((with_reducible refine j_ hK ?_);clear hK hE K E)|((with_reducible refine aj (fun h=>?_) (fun h=>?_))<;>(try(exfalso;assumption)))|((first|(with_reducible first|refine ae fun K E hK hE=>?_|refine ak qu (w2 _) ?_|refine ak gm (gq _) ?_)|((with_reducible refine aO tR (w1 _) (fun a h=>?_)))|((with_reducible refine ao (fun b hb=>?_)))|((with_reducible refine dy (fun h=>?_) (fun h=>?_))))<;>(try simp(disch:=omega) only[go_sem,seval, *]))))
      all_goals(refine ap nK hQ ?_)
      all_goals exact⟨_,t,Wk.refl _,v_ _ hb,rfl,rfl⟩
end Go.Proofs.YteldpmgepfaiiaaGreatDoor
