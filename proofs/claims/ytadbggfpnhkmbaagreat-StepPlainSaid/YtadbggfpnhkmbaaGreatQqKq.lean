/- Walks of functions that the claim reaches, and plain facts of them. Conditions: those in the statements. -/
import Derived.Test.YtadbggfpnhkmbaaGreatQqSo
import Derived.Test.YtadbggfpnhkmbaaGreatQqKcj
set_option linter.unusedSimpArgs false
set_option linter.unusedVariables false
set_option maxRecDepth 100000
namespace Go.Proofs.YtadbggfpnhkmbaaGreat
open Go.RowKit
theorem rowsfrzK {l:List (List Int)}:(l.map rowV).map (fun y=>[y])=rowsV l:=by unfold rowsV;rw[List.map_map];rfl
set_option maxHeartbeats 4000000 in
theorem Kall_S (t:St)(b off m g:Nat)(cs:List VV)(l:List (List Int))(hb:t b=.obj 59 cs)(hA:RwAt t cs off m g l)(hlen:off+2≤cs.length)(hnd:l.Nodup) :
  SCalls Tryz.prog 11 [.ptr b off] t fun w u=>∃q:St×VV,w=.ret (.lst (rowsV (sortR l)) .no)∧u=q.1∧q.1 b=.obj 59 (cs.set off q.2)∧∀x,t x≠.free→x≠b→(l≠[]→x≠g)→q.1 x=t x:=by
 have hl1:off<cs.length:=by omega
 have hl2:off+1≤cs.length:=by omega
 obtain⟨h1,h2,h3,h4,h5,h6⟩:=hA
 cases l with
 |nil=>
  simp only[rowsF]at h1
  have ws:=fun s=>Sort0_S s []
  have hs:cs.set off (.raw (.slice none 0 0))=cs:=by
   apply List.ext_getElem?
   intro i
   by_cases e:off=i
   ·subst e;rw[List.getElem?_set_self (by omega),h1]
   ·rw[List.getElem?_set_ne e]
  have hS:sortR []=[]:=rfl
  have HB:=Lib.hid hb
  clear h2 h3 h4 h5
  refine G_enter Tryz.func11 rfl Tryz.ntmps11 rfl fun Q hQ hQe=>?_
  (repeat'(first|refine Ctl ?_|((with_reducible refine Kof.use hK ?_);clear hK hE K E)|((with_reducible refine Eof.use hE ?_);(try clear hK hE K E))|((with_reducible refine W_cond (fun h=>?_) (fun h=>?_))<;>(try(exfalso;first|assumption|omega)))|((first|(with_reducible first|refine G_region fun K E hK hE=>?_|refine call_ret can21 (ws _) ?_|refine W_if ?_|refine W_ifS ?_|refine W_and ?_))<;>(try simp(disch:=first|assumption|omega) only[go_sem,seval, *]))))
  all_goals(first|refine W_ret res11 hQ ?_|refine W_norm res11 hQ ?_|refine G_pan hQ ?_)
  all_goals exact⟨_,t,wkrawK,Fg.refl _,(t,.raw (.slice none 0 0)),rfl,rfl,by rw[hs];exact HB.out,fun x _ _ _=>rfl⟩
 |cons a l=>
  have h7:=h4 (by simp)
  generalize hL:a::l=L at *
  have hne:L≠[]:=by rw[← hL];simp
  have hrf:rowsF L g=.mrw g L.length:=by rw[← hL];rfl
  rw[hrf]at h1
  have ws:=fun s hs=>Sort_S L g 41 (by omega) hnd (fun r hr=>by have:=(h5 r hr).1;omega) s hs
  have hslen:((sortR L).map rowV).length=L.length:=by rw[List.length_map];exact sortlenK hnd
  have HFZ:Hid (((sortR L).map rowV).map (fun y=>[y])=rowsV (sortR L)):=Lib.hid rowsfrzK
  have hbg:¬ b=g:=rowneK h7 hb (by intros;simp)
  have hgb:¬ g=b:=fun e=>hbg e.symm
  have HNE:=Lib.hid hne
  clear h2 h3 h4 h5 hL hne hrf
  generalize (sortR L).map rowV=SRT at *
  refine G_enter Tryz.func11 rfl Tryz.ntmps11 rfl fun Q hQ hQe=>?_
  (repeat'(first|(with_reducible refine Kp_atK 2 ?_)|refine Ctl ?_|((with_reducible refine Kof.use hK ?_);clear hK hE K E)|((with_reducible refine Eof.use hE ?_);(try clear hK hE K E))|((with_reducible refine W_cond (fun h=>?_) (fun h=>?_))<;>(try(exfalso;first|assumption|omega)))|((first|(with_reducible first|refine G_region fun K E hK hE=>?_|refine call_ret can21 (ws _ z_sl) ?_|refine W_if ?_|refine W_ifS ?_|refine W_and ?_))<;>(try simp(disch:=first|assumption|omega) only[go_sem,seval, *]))))
  unfold StopK
  have hzb:(t.set g (.row 41 1 SRT)) b=.obj 59 cs:=by rw[St.set_other _ _ hbg];exact hb
  have hg:=GSg.frz (i:=off) hzb h1 (St.set_same _ _ _) hslen
  rw[St.set_set,HFZ.out]at hg
  refine Kp_gsg hg ?_
  have q1:((t.set g .free).set b (.obj 59 (cs.set off (.lst (rowsV (sortR L)) .no)))) b=.obj 59 (cs.set off (.lst (rowsV (sortR L)) .no)):=St.set_same _ _ _
  have q2:(cs.set off (.lst (rowsV (sortR L)) .no))[off]?=some (.lst (rowsV (sortR L)) .no):=List.getElem?_set_self hl1
  have q3:off+1≤(cs.set off (.lst (rowsV (sortR L)) .no)).length:=by rw[List.length_set];exact hl2
  have HK:Hid (∀x,t x≠.free→x≠b→(L≠[]→x≠g)→((t.set g .free).set b (.obj 59 (cs.set off (.lst (rowsV (sortR L)) .no)))) x=t x):=Lib.hid fun x _ hx1 hx2=>by
   rw[St.set_other _ _ hx1,St.set_other _ _ (hx2 HNE.out)]
  have HQ:=Lib.hid q1
  clear hzb hg h1 hb h7
  generalize (t.set g .free).set b (.obj 59 (cs.set off (.lst (rowsV (sortR L)) .no)))=U at *
  generalize hCS:cs.set off (.lst (rowsV (sortR L)) .no)=CS at *
  generalize rowsV (sortR L)=RS at *
  (repeat'(first|refine Ctl ?_|((with_reducible refine Kof.use hK ?_);clear hK hE K E)|((with_reducible refine Eof.use hE ?_);(try clear hK hE K E))|((with_reducible refine W_cond (fun h=>?_) (fun h=>?_))<;>(try(exfalso;first|assumption|omega)))|((first|(with_reducible first|refine G_region fun K E hK hE=>?_|refine W_if ?_|refine W_ifS ?_|refine W_and ?_))<;>(try simp(disch:=first|assumption|omega) only[go_sem,seval, *]))))
  all_goals(first|refine W_ret res11 hQ ?_|refine W_norm res11 hQ ?_|refine G_pan hQ ?_)
  all_goals exact⟨_,U,Wk.refl _,Fg.refl _,(U,.lst RS .no),rfl,rfl,by rw[hCS];exact HQ.out,HK.out⟩
end Go.Proofs.YtadbggfpnhkmbaaGreat
