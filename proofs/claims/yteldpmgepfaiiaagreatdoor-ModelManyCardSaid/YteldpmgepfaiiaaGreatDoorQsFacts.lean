/- Walks of functions, and plain facts. Conditions: those in the statements. -/
import Derived.Test.YteldpmgepfaiiaaGreatDoorQsRunj
import Derived.Test.YteldpmgepfaiiaaGreatDoorRows
import Derived.KernelRfl
set_option linter.unusedSimpArgs false
set_option linter.unusedVariables false
namespace Go.Proofs.YteldpmgepfaiiaaGreatDoor
theorem qi3:qi Tryz.prog 3=⟨.int .i64,1,8,true,[.int .i64 0]⟩:=by kernel_rfl
theorem qi4:qi Tryz.prog 4=⟨.bool,1,1,true,[.bool false]⟩:=by kernel_rfl
theorem qi5:qi Tryz.prog 5=⟨.int .u8,1,1,true,[.int .u8 0]⟩:=by kernel_rfl
theorem qi9:qi Tryz.prog 9=⟨.str,1,16,true,[.str []]⟩:=by kernel_rfl
theorem qi22:qi Tryz.prog 22=⟨.slice 63,1,24,true,[.lst [] .full]⟩:=by kernel_rfl
theorem qi23:qi Tryz.prog 23=⟨.slice 66,1,24,true,[.lst [] .full]⟩:=by kernel_rfl
theorem qi24:qi Tryz.prog 24=⟨.slice 43,1,24,true,[.lst [] .full]⟩:=by kernel_rfl
theorem qi26:qi Tryz.prog 26=⟨.struct,3,72,true,[.lst [] .full,.lst [] .full,.lst [] .full]⟩:=by kernel_rfl
theorem Ml:fok Tryz.prog 26=true:=by kernel_rfl
theorem H3:qf Tryz.prog 26 0=some (0,1,false):=by kernel_rfl
theorem H1:qf Tryz.prog 26 1=some (1,1,false):=by kernel_rfl
theorem H0:qf Tryz.prog 26 2=some (2,1,false):=by kernel_rfl
theorem qi27:qi Tryz.prog 27=⟨.slice 46,1,24,true,[.lst [] .full]⟩:=by kernel_rfl
theorem qi31:qi Tryz.prog 31=⟨.int .i64,1,8,true,[.int .i64 0]⟩:=by kernel_rfl
theorem qi38:qi Tryz.prog 38=⟨.slice 53,1,24,true,[.lst [] .full]⟩:=by kernel_rfl
theorem qi40:qi Tryz.prog 40=⟨.struct,3,48,true,[.bool false,.str [],.lst [] .full]⟩:=by kernel_rfl
theorem Mk:fok Tryz.prog 40=true:=by kernel_rfl
theorem HQ:qf Tryz.prog 40 0=some (0,1,false):=by kernel_rfl
theorem Hz:qf Tryz.prog 40 1=some (1,1,false):=by kernel_rfl
theorem Hy:qf Tryz.prog 40 2=some (2,1,false):=by kernel_rfl
theorem qi41:qi Tryz.prog 41=⟨.slice 40,1,24,true,[.lst [] .full]⟩:=by kernel_rfl
theorem qi43:qi Tryz.prog 43=⟨.struct,4,72,true,[.bool false,.str [],.lst [] .full,.lst [] .full]⟩:=by kernel_rfl
theorem Mj:fok Tryz.prog 43=true:=by kernel_rfl
theorem Hx:qf Tryz.prog 43 0=some (0,3,true):=by kernel_rfl
theorem Hw:qf Tryz.prog 43 1=some (3,1,false):=by kernel_rfl
theorem qi44:qi Tryz.prog 44=⟨.slice 48,1,24,true,[.lst [] .full]⟩:=by kernel_rfl
theorem qi46:qi Tryz.prog 46=⟨.struct,2,40,true,[.str [],.lst [] .full]⟩:=by kernel_rfl
theorem Mi:fok Tryz.prog 46=true:=by kernel_rfl
theorem Hv:qf Tryz.prog 46 0=some (0,1,false):=by kernel_rfl
theorem Hu:qf Tryz.prog 46 1=some (1,1,false):=by kernel_rfl
theorem qi48:qi Tryz.prog 48=⟨.slice 3,1,24,true,[.lst [] .full]⟩:=by kernel_rfl
theorem qi53:qi Tryz.prog 53=⟨.struct,3,32,true,[.bool false,.str [],.int .i64 0]⟩:=by kernel_rfl
theorem Mh:fok Tryz.prog 53=true:=by kernel_rfl
theorem Ht:qf Tryz.prog 53 0=some (0,1,false):=by kernel_rfl
theorem Hs:qf Tryz.prog 53 1=some (1,1,false):=by kernel_rfl
theorem Hr:qf Tryz.prog 53 2=some (2,1,false):=by kernel_rfl
theorem qi54:qi Tryz.prog 54=⟨.func,1,8,true,[.raw .nilFunc]⟩:=by kernel_rfl
theorem qi63:qi Tryz.prog 63=⟨.struct,2,24,true,[.str [],.int .i64 0]⟩:=by kernel_rfl
theorem Mg:fok Tryz.prog 63=true:=by kernel_rfl
theorem Hq:qf Tryz.prog 63 0=some (0,1,false):=by kernel_rfl
theorem Hp:qf Tryz.prog 63 1=some (1,1,false):=by kernel_rfl
theorem qi64:qi Tryz.prog 64=⟨.slice 9,1,24,true,[.lst [] .full]⟩:=by kernel_rfl
theorem qi66:qi Tryz.prog 66=⟨.struct,2,40,true,[.str [],.lst [] .full]⟩:=by kernel_rfl
theorem Mf:fok Tryz.prog 66=true:=by kernel_rfl
theorem Ho:qf Tryz.prog 66 0=some (0,1,false):=by kernel_rfl
theorem Hn:qf Tryz.prog 66 1=some (1,1,false):=by kernel_rfl
theorem qi71:qi Tryz.prog 71=⟨.ptr,1,8,true,[.raw (.pointer none)]⟩:=by kernel_rfl
theorem qi73:qi Tryz.prog 73=⟨.map 9 3,1,8,true,[.raw (.map none)]⟩:=by kernel_rfl
theorem qi74:qi Tryz.prog 74=⟨.slice 78,1,24,true,[.lst [] .full]⟩:=by kernel_rfl
theorem qi75:qi Tryz.prog 75=⟨.slice 64,1,24,true,[.lst [] .full]⟩:=by kernel_rfl
theorem qi77:qi Tryz.prog 77=⟨.struct,7,136,true,[.lst [] .full,.lst [] .full,.lst [] .full,.raw (.map none),.raw (.map none),.lst [] .full,.lst [] .full]⟩:=by kernel_rfl
theorem Me:fok Tryz.prog 77=true:=by kernel_rfl
theorem Hm:qf Tryz.prog 77 0=some (0,3,true):=by kernel_rfl
theorem Hl:qf Tryz.prog 77 1=some (3,1,false):=by kernel_rfl
theorem Hk:qf Tryz.prog 77 2=some (4,1,false):=by kernel_rfl
theorem Hj:qf Tryz.prog 77 3=some (5,1,false):=by kernel_rfl
theorem Hi:qf Tryz.prog 77 4=some (6,1,false):=by kernel_rfl
theorem qi78:qi Tryz.prog 78=⟨.ptr,1,8,true,[.raw (.pointer none)]⟩:=by kernel_rfl
theorem qi79:qi Tryz.prog 79=⟨.map 9 4,1,8,true,[.raw (.map none)]⟩:=by kernel_rfl
theorem qi81:qi Tryz.prog 81=⟨.struct,2,32,true,[.lst [] .full,.raw (.map none)]⟩:=by kernel_rfl
theorem Md:fok Tryz.prog 81=true:=by kernel_rfl
theorem Hh:qf Tryz.prog 81 0=some (0,1,false):=by kernel_rfl
theorem Hg:qf Tryz.prog 81 1=some (1,1,false):=by kernel_rfl
theorem qi86:qi Tryz.prog 86=⟨.slice 131,1,24,true,[.lst [] .full]⟩:=by kernel_rfl
theorem qi91:qi Tryz.prog 91=⟨.struct,5,56,true,[.lst [] .full,.int .i64 0,.int .i64 0,.int .i64 0,.int .i64 0]⟩:=by kernel_rfl
theorem Mc:fok Tryz.prog 91=true:=by kernel_rfl
theorem Hf:qf Tryz.prog 91 0=some (0,1,false):=by kernel_rfl
theorem He:qf Tryz.prog 91 1=some (1,1,false):=by kernel_rfl
theorem Hd:qf Tryz.prog 91 2=some (2,1,false):=by kernel_rfl
theorem Hc:qf Tryz.prog 91 3=some (3,1,false):=by kernel_rfl
theorem KH:qi Tryz.prog 111=⟨.func,1,8,true,[.raw .nilFunc]⟩:=by kernel_rfl
theorem KG:qi Tryz.prog 114=⟨.struct,2,48,true,[.lst [] .full,.lst [] .full]⟩:=by kernel_rfl
theorem Je:fok Tryz.prog 114=true:=by kernel_rfl
theorem Du:qf Tryz.prog 114 0=some (0,1,false):=by kernel_rfl
theorem Dt:qf Tryz.prog 114 1=some (1,1,false):=by kernel_rfl
theorem KF:qi Tryz.prog 131=⟨.struct,3,32,true,[.int .i64 0,.str [],.int .i64 0]⟩:=by kernel_rfl
theorem Jd:fok Tryz.prog 131=true:=by kernel_rfl
theorem Ds:qf Tryz.prog 131 0=some (0,1,false):=by kernel_rfl
theorem Dr:qf Tryz.prog 131 1=some (1,1,false):=by kernel_rfl
theorem Dq:qf Tryz.prog 131 2=some (2,1,false):=by kernel_rfl
theorem KE:qi Tryz.prog 147=⟨.struct,3,56,true,[.lst [] .full,.lst [] .full,.raw (.map none)]⟩:=by kernel_rfl
theorem Jc:fok Tryz.prog 147=true:=by kernel_rfl
theorem Dp:qf Tryz.prog 147 0=some (0,1,false):=by kernel_rfl
theorem Do:qf Tryz.prog 147 1=some (1,1,false):=by kernel_rfl
theorem Dn:qf Tryz.prog 147 2=some (2,1,false):=by kernel_rfl
theorem KD:qi Tryz.prog 148=⟨.slice 4,1,24,true,[.lst [] .full]⟩:=by kernel_rfl
theorem KC:qi Tryz.prog 149=⟨.func,1,8,true,[.raw .nilFunc]⟩:=by kernel_rfl
theorem KB:qi Tryz.prog 156=⟨.slice 5,1,24,true,[.lst [] .full]⟩:=by kernel_rfl
theorem KA:qi Tryz.prog 183=⟨.struct,5,88,true,[.lst [] .full,.lst [] .full,.lst [] .full,.raw (.map none),.raw (.map none)]⟩:=by kernel_rfl
theorem Jb:fok Tryz.prog 183=true:=by kernel_rfl
theorem Dl:qf Tryz.prog 183 0=some (0,3,true):=by kernel_rfl
theorem Dk:qf Tryz.prog 183 1=some (3,1,false):=by kernel_rfl
theorem Dj:qf Tryz.prog 183 2=some (4,1,false):=by kernel_rfl
theorem Kz:qi Tryz.prog 207=⟨.ptr,1,8,true,[.raw (.pointer none)]⟩:=by kernel_rfl
theorem H6:pok Tryz.prog 207=true:=by kernel_rfl
theorem Ky:qi Tryz.prog 209=⟨.struct,2,32,true,[.raw (.pointer none),.lst [] .full]⟩:=by kernel_rfl
theorem Di:qf Tryz.prog 209 0=some (0,1,false):=by kernel_rfl
theorem Dh:qf Tryz.prog 209 1=some (1,1,false):=by kernel_rfl
theorem tR:au Tryz.prog 9:=am Tryz.func9 (by kernel_rfl) rfl
theorem qu:au Tryz.prog 10:=am Tryz.func10 (by kernel_rfl) rfl
theorem Ch:au Tryz.prog 11:=am Tryz.func11 (by kernel_rfl) rfl
theorem gm:au Tryz.prog 12:=am Tryz.func12 (by kernel_rfl) rfl
theorem Cc:au Tryz.prog 13:=am Tryz.func13 (by kernel_rfl) rfl
theorem tW:au Tryz.prog 14:=am Tryz.func14 (by kernel_rfl) rfl
theorem Fv:au Tryz.prog 15:=am Tryz.func15 (by kernel_rfl) rfl
theorem ML:au Tryz.prog 17:=am Tryz.func17 (by kernel_rfl) rfl
theorem jP:au Tryz.prog 18:=am Tryz.func18 (by kernel_rfl) rfl
theorem xQ:au Tryz.prog 19:=am Tryz.func19 (by kernel_rfl) rfl
theorem Fu:au Tryz.prog 22:=am Tryz.func22 (by kernel_rfl) rfl
theorem Ft:au Tryz.prog 23:=am Tryz.func23 (by kernel_rfl) rfl
theorem MK:au Tryz.prog 24:=am Tryz.func24 (by kernel_rfl) rfl
theorem Fs:au Tryz.prog 25:=am Tryz.func25 (by kernel_rfl) rfl
theorem MJ:au Tryz.prog 26:=am Tryz.func26 (by kernel_rfl) rfl
theorem MI:au Tryz.prog 27:=am Tryz.func27 (by kernel_rfl) rfl
theorem MH:au Tryz.prog 28:=am Tryz.func28 (by kernel_rfl) rfl
theorem Fr:au Tryz.prog 29:=am Tryz.func29 (by kernel_rfl) rfl
theorem BY:au Tryz.prog 30:=am Tryz.func30 (by kernel_rfl) rfl
theorem qr:au Tryz.prog 31:=am Tryz.func31 (by kernel_rfl) rfl
theorem MG:au Tryz.prog 32:=am Tryz.func32 (by kernel_rfl) rfl
theorem iC:au Tryz.prog 33:=am Tryz.func33 (by kernel_rfl) rfl
theorem qp:au Tryz.prog 34:=am Tryz.func34 (by kernel_rfl) rfl
theorem mz:au Tryz.prog 35:=am Tryz.func35 (by kernel_rfl) rfl
theorem Fq:au Tryz.prog 36:=am Tryz.func36 (by kernel_rfl) rfl
theorem my:au Tryz.prog 37:=am Tryz.func37 (by kernel_rfl) rfl
theorem MF:au Tryz.prog 38:=am Tryz.func38 (by kernel_rfl) rfl
theorem xP:au Tryz.prog 39:=am Tryz.func39 (by kernel_rfl) rfl
theorem ME:au Tryz.prog 40:=am Tryz.func40 (by kernel_rfl) rfl
theorem fm:au Tryz.prog 41:=am Tryz.func41 (by kernel_rfl) rfl
theorem Fp:au Tryz.prog 42:=am Tryz.func42 (by kernel_rfl) rfl
theorem Fo:au Tryz.prog 45:=am Tryz.func45 (by kernel_rfl) rfl
theorem MD:au Tryz.prog 46:=am Tryz.func46 (by kernel_rfl) rfl
theorem MC:au Tryz.prog 49:=am Tryz.func49 (by kernel_rfl) rfl
theorem BX:au Tryz.prog 51:=am Tryz.func51 (by kernel_rfl) rfl
theorem BW:au Tryz.prog 52:=am Tryz.func52 (by kernel_rfl) rfl
theorem MB:au Tryz.prog 53:=am Tryz.func53 (by kernel_rfl) rfl
theorem xO:au Tryz.prog 54:=am Tryz.func54 (by kernel_rfl) rfl
theorem MA:au Tryz.prog 55:=am Tryz.func55 (by kernel_rfl) rfl
theorem BV:au Tryz.prog 56:=am Tryz.func56 (by kernel_rfl) rfl
theorem tU:au Tryz.prog 57:=am Tryz.func57 (by kernel_rfl) rfl
theorem BU:au Tryz.prog 58:=am Tryz.func58 (by kernel_rfl) rfl
theorem Mz:au Tryz.prog 59:=am Tryz.func59 (by kernel_rfl) rfl
theorem My:au Tryz.prog 60:=am Tryz.func60 (by kernel_rfl) rfl
theorem k9:au Tryz.prog 61:=am Tryz.func61 (by kernel_rfl) rfl
theorem qo:au Tryz.prog 65:=am Tryz.func65 (by kernel_rfl) rfl
theorem qn:au Tryz.prog 70:=am Tryz.func70 (by kernel_rfl) rfl
theorem xN:au Tryz.prog 71:=am Tryz.func71 (by kernel_rfl) rfl
theorem Fn:au Tryz.prog 72:=am Tryz.func72 (by kernel_rfl) rfl
theorem tT:au Tryz.prog 73:=am Tryz.func73 (by kernel_rfl) rfl
theorem Fm:au Tryz.prog 74:=am Tryz.func74 (by kernel_rfl) rfl
theorem BT:au Tryz.prog 75:=am Tryz.func75 (by kernel_rfl) rfl
theorem Fl:au Tryz.prog 76:=am Tryz.func76 (by kernel_rfl) rfl
theorem Fk:au Tryz.prog 77:=am Tryz.func77 (by kernel_rfl) rfl
theorem BS:au Tryz.prog 78:=am Tryz.func78 (by kernel_rfl) rfl
theorem tS:au Tryz.prog 79:=am Tryz.func79 (by kernel_rfl) rfl
theorem Fj:au Tryz.prog 80:=am Tryz.func80 (by kernel_rfl) rfl
theorem BR:au Tryz.prog 81:=am Tryz.func81 (by kernel_rfl) rfl
theorem qm:au Tryz.prog 82:=am Tryz.func82 (by kernel_rfl) rfl
theorem xM:au Tryz.prog 83:=am Tryz.func83 (by kernel_rfl) rfl
theorem xL:au Tryz.prog 84:=am Tryz.func84 (by kernel_rfl) rfl
theorem Fi:au Tryz.prog 85:=am Tryz.func85 (by kernel_rfl) rfl
theorem Fh:au Tryz.prog 86:=am Tryz.func86 (by kernel_rfl) rfl
theorem BQ:au Tryz.prog 98:=am Tryz.func98 (by kernel_rfl) rfl
theorem Mx:au Tryz.prog 99:=am Tryz.func99 (by kernel_rfl) rfl
theorem Ck:au Tryz.prog 100:=am Tryz.func100 (by kernel_rfl) rfl
theorem JA:au Tryz.prog 101:=am Tryz.func101 (by kernel_rfl) rfl
theorem Cj:au Tryz.prog 107:=am Tryz.func107 (by kernel_rfl) rfl
theorem Ci:au Tryz.prog 108:=am Tryz.func108 (by kernel_rfl) rfl
theorem rG:au Tryz.prog 109:=am Tryz.func109 (by kernel_rfl) rfl
theorem Cg:au Tryz.prog 110:=am Tryz.func110 (by kernel_rfl) rfl
theorem Jz:au Tryz.prog 111:=am Tryz.func111 (by kernel_rfl) rfl
theorem vS:au Tryz.prog 112:=am Tryz.func112 (by kernel_rfl) rfl
theorem Cf:au Tryz.prog 113:=am Tryz.func113 (by kernel_rfl) rfl
theorem Ce:au Tryz.prog 122:=am Tryz.func122 (by kernel_rfl) rfl
theorem Cd:au Tryz.prog 123:=am Tryz.func123 (by kernel_rfl) rfl
theorem Jy:au Tryz.prog 124:=am Tryz.func124 (by kernel_rfl) rfl
theorem lK:au Tryz.prog 129:=am Tryz.func129 (by kernel_rfl) rfl
theorem Cb:au Tryz.prog 130:=am Tryz.func130 (by kernel_rfl) rfl
theorem Ca:au Tryz.prog 131:=am Tryz.func131 (by kernel_rfl) rfl
theorem B9:au Tryz.prog 132:=am Tryz.func132 (by kernel_rfl) rfl
theorem rF:au Tryz.prog 133:=am Tryz.func133 (by kernel_rfl) rfl
theorem rE:au Tryz.prog 134:=am Tryz.func134 (by kernel_rfl) rfl
theorem B8:au Tryz.prog 135:=am Tryz.func135 (by kernel_rfl) rfl
theorem B7:au Tryz.prog 136:=am Tryz.func136 (by kernel_rfl) rfl
theorem B6:au Tryz.prog 137:=am Tryz.func137 (by kernel_rfl) rfl
theorem Jx:au Tryz.prog 139:=am Tryz.func139 (by kernel_rfl) rfl
theorem oG:au Tryz.prog 140:=am Tryz.func140 (by kernel_rfl) rfl
theorem B5:au Tryz.prog 141:=am Tryz.func141 (by kernel_rfl) rfl
theorem Jw:au Tryz.prog 142:=am Tryz.func142 (by kernel_rfl) rfl
theorem rD:au Tryz.prog 144:=am Tryz.func144 (by kernel_rfl) rfl
theorem Jv:au Tryz.prog 145:=am Tryz.func145 (by kernel_rfl) rfl
theorem B4:au Tryz.prog 146:=am Tryz.func146 (by kernel_rfl) rfl
theorem Ju:au Tryz.prog 147:=am Tryz.func147 (by kernel_rfl) rfl
theorem vR:au Tryz.prog 148:=am Tryz.func148 (by kernel_rfl) rfl
theorem B3:au Tryz.prog 153:=am Tryz.func153 (by kernel_rfl) rfl
theorem Jt:au Tryz.prog 156:=am Tryz.func156 (by kernel_rfl) rfl
theorem oF:au Tryz.prog 157:=am Tryz.func157 (by kernel_rfl) rfl
theorem BZ:au Tryz.prog 158:=am Tryz.func158 (by kernel_rfl) rfl
theorem Js:au Tryz.prog 159:=am Tryz.func159 (by kernel_rfl) rfl
theorem vQ:au Tryz.prog 166:=am Tryz.func166 (by kernel_rfl) rfl
theorem Jr:au Tryz.prog 169:=am Tryz.func169 (by kernel_rfl) rfl
theorem res0:Tryz.f0.results.toList=[]:=rfl
theorem res1:Tryz.f1.results.toList=[]:=rfl
theorem res2:Tryz.f2.results.toList=[]:=rfl
theorem res3:Tryz.f3.results.toList=[.tmp 4]:=rfl
theorem res4:Tryz.f4.results.toList=[.tmp 4]:=rfl
theorem uZ:Tryz.f5.results.toList=[.tmp 4]:=rfl
theorem Nh:Tryz.f6.results.toList=[.tmp 2]:=rfl
theorem nK:Tryz.f7.results.toList=[.tmp 4]:=rfl
theorem res8:Tryz.f8.results.toList=[.tmp 6]:=rfl
theorem sO:Tryz.f9.results.toList=[.tmp 2]:=rfl
theorem mn:Tryz.f10.results.toList=[.tmp 2]:=rfl
theorem pT:Tryz.f11.results.toList=[.tmp 2]:=rfl
theorem Fb:Tryz.f12.results.toList=[.tmp 0]:=rfl
theorem Fa:Tryz.f13.results.toList=[.tmp 4,.tmp 5,.tmp 6]:=rfl
theorem pS:Tryz.f14.results.toList=[.tmp 4,.tmp 5]:=rfl
theorem E9:Tryz.f15.results.toList=[.tmp 4]:=rfl
theorem Kw:Tryz.f16.results.toList=[.tmp 4]:=rfl
theorem E8:Tryz.f17.results.toList=[.cell 2 26,.tmp 3,.tmp 4]:=rfl
theorem AN:Tryz.f18.results.toList=[.tmp 4]:=rfl
theorem sW:Tryz.f19.results.toList=[.tmp 4]:=rfl
theorem Kv:Tryz.f20.results.toList=[.tmp 6,.tmp 7,.tmp 8]:=rfl
theorem Ku:Tryz.f21.results.toList=[.tmp 6,.tmp 7]:=rfl
theorem wO:Tryz.f22.results.toList=[.tmp 4]:=rfl
theorem AM:Tryz.f23.results.toList=[.tmp 2]:=rfl
theorem pR:Tryz.f24.results.toList=[.tmp 8,.tmp 9,.tmp 10]:=rfl
theorem E7:Tryz.f25.results.toList=[.tmp 2,.tmp 3]:=rfl
theorem E6:Tryz.f26.results.toList=[.tmp 2]:=rfl
theorem jN:Tryz.f27.results.toList=[.tmp 4]:=rfl
theorem AK:Tryz.f28.results.toList=[.tmp 4]:=rfl
theorem Kt:Tryz.f29.results.toList=[]:=rfl
theorem Ks:Tryz.f30.results.toList=[.tmp 4]:=rfl
theorem wN:Tryz.f31.results.toList=[.tmp 4]:=rfl
theorem sV:Tryz.f32.results.toList=[.tmp 2,.tmp 3,.tmp 4]:=rfl
theorem AJ:Tryz.f33.results.toList=[.tmp 4]:=rfl
theorem E5:Tryz.f34.results.toList=[]:=rfl
theorem E4:Tryz.f35.results.toList=[.tmp 4]:=rfl
theorem Kr:Tryz.f36.results.toList=[.tmp 2,.tmp 3]:=rfl
theorem E3:Tryz.f37.results.toList=[]:=rfl
theorem E2:Tryz.f38.results.toList=[.cell 2 66]:=rfl
theorem AI:Tryz.f39.results.toList=[.tmp 8]:=rfl
theorem AH:Tryz.f40.results.toList=[.cell 2 43]:=rfl
theorem AG:Tryz.f41.results.toList=[.tmp 4]:=rfl
theorem mm:Tryz.f42.results.toList=[.tmp 6]:=rfl
theorem Kq:Tryz.f43.results.toList=[.tmp 4,.tmp 5,.tmp 6]:=rfl
theorem Ko:Tryz.f44.results.toList=[.tmp 4]:=rfl
theorem AF:Tryz.f45.results.toList=[.tmp 10,.tmp 11]:=rfl
theorem sU:Tryz.f46.results.toList=[.tmp 4,.tmp 5,.tmp 6]:=rfl
theorem Km:Tryz.f47.results.toList=[.tmp 6]:=rfl
theorem Kl:Tryz.f48.results.toList=[.tmp 4]:=rfl
theorem E1:Tryz.f49.results.toList=[]:=rfl
theorem Kk:Tryz.f50.results.toList=[.tmp 3]:=rfl
theorem wM:Tryz.f51.results.toList=[.tmp 4]:=rfl
theorem AE:Tryz.f52.results.toList=[.tmp 2,.tmp 3]:=rfl
theorem AD:Tryz.f53.results.toList=[.tmp 4]:=rfl
theorem nL:Tryz.f54.results.toList=[.cell 4 114,.tmp 5]:=rfl
theorem E0:Tryz.f55.results.toList=[.tmp 6]:=rfl
theorem EZ:Tryz.f56.results.toList=[.tmp 6]:=rfl
theorem sT:Tryz.f57.results.toList=[.tmp 2,.tmp 3,.tmp 4,.tmp 5]:=rfl
theorem Kj:Tryz.f58.results.toList=[.tmp 2]:=rfl
theorem sS:Tryz.f59.results.toList=[.tmp 7]:=rfl
theorem AC:Tryz.f60.results.toList=[.tmp 4]:=rfl
theorem EY:Tryz.f61.results.toList=[.tmp 2]:=rfl
theorem Ki:Tryz.f62.results.toList=[]:=rfl
theorem Kg:Tryz.f63.results.toList=[.tmp 2]:=rfl
theorem Kf:Tryz.f64.results.toList=[.tmp 4]:=rfl
theorem EX:Tryz.f65.results.toList=[.cell 4 131,.tmp 5]:=rfl
theorem Ke:Tryz.f66.results.toList=[]:=rfl
theorem Kd:Tryz.f67.results.toList=[.tmp 2]:=rfl
theorem Kc:Tryz.f68.results.toList=[.tmp 2,.tmp 3]:=rfl
theorem Ka:Tryz.f69.results.toList=[.tmp 10]:=rfl
theorem AB:Tryz.f70.results.toList=[.tmp 2]:=rfl
theorem EW:Tryz.f71.results.toList=[.cell 2 40]:=rfl
theorem AA:Tryz.f72.results.toList=[.cell 2 40]:=rfl
theorem wL:Tryz.f73.results.toList=[.tmp 4]:=rfl
theorem sR:Tryz.f74.results.toList=[.tmp 2,.tmp 3]:=rfl
theorem pQ:Tryz.f75.results.toList=[.tmp 8,.tmp 9]:=rfl
theorem Az:Tryz.f76.results.toList=[.tmp 4]:=rfl
theorem wK:Tryz.f77.results.toList=[.tmp 4]:=rfl
theorem pP:Tryz.f78.results.toList=[.tmp 4,.tmp 5]:=rfl
theorem Ay:Tryz.f79.results.toList=[.tmp 4]:=rfl
theorem sQ:Tryz.f80.results.toList=[.tmp 11]:=rfl
theorem sP:Tryz.f81.results.toList=[.tmp 2,.tmp 3]:=rfl
theorem pO:Tryz.f82.results.toList=[.cell 6 114,.tmp 7]:=rfl
theorem Ax:Tryz.f83.results.toList=[.tmp 4]:=rfl
theorem Aw:Tryz.f84.results.toList=[.tmp 4]:=rfl
theorem nJ:Tryz.f85.results.toList=[.tmp 2,.tmp 3]:=rfl
theorem Av:Tryz.f86.results.toList=[.tmp 2,.tmp 3]:=rfl
theorem J9:Tryz.f87.results.toList=[]:=rfl
theorem J8:Tryz.f88.results.toList=[]:=rfl
theorem J7:Tryz.f89.results.toList=[]:=rfl
theorem J6:Tryz.f90.results.toList=[.tmp 8,.tmp 9]:=rfl
theorem J5:Tryz.f91.results.toList=[]:=rfl
theorem J4:Tryz.f92.results.toList=[.tmp 8]:=rfl
theorem J3:Tryz.f93.results.toList=[.tmp 10]:=rfl
theorem J2:Tryz.f94.results.toList=[.tmp 10,.tmp 11]:=rfl
theorem J1:Tryz.f95.results.toList=[.tmp 2]:=rfl
theorem J0:Tryz.f96.results.toList=[.tmp 2]:=rfl
theorem JZ:Tryz.f97.results.toList=[.tmp 2]:=rfl
theorem EV:Tryz.f98.results.toList=[.tmp 2]:=rfl
theorem wJ:Tryz.f99.results.toList=[.tmp 6]:=rfl
theorem A0:Tryz.f100.results.toList=[.tmp 2]:=rfl
theorem qQ:Tryz.f101.results.toList=[.tmp 4]:=rfl
theorem G7:Tryz.f102.results.toList=[.tmp 6,.tmp 7]:=rfl
theorem G6:Tryz.f103.results.toList=[.tmp 4]:=rfl
theorem G5:Tryz.f104.results.toList=[.tmp 4]:=rfl
theorem G4:Tryz.f105.results.toList=[.tmp 6]:=rfl
theorem G3:Tryz.f106.results.toList=[.tmp 6]:=rfl
theorem vb:Tryz.f107.results.toList=[.cell 2 53]:=rfl
theorem iU:Tryz.f108.results.toList=[.tmp 2]:=rfl
theorem lz:Tryz.f109.results.toList=[.tmp 6]:=rfl
theorem qP:Tryz.f110.results.toList=[.tmp 4]:=rfl
theorem AZ:Tryz.f111.results.toList=[.tmp 4]:=rfl
theorem va:Tryz.f112.results.toList=[.tmp 4]:=rfl
theorem AY:Tryz.f113.results.toList=[.tmp 2]:=rfl
theorem G0:Tryz.f114.results.toList=[]:=rfl
theorem GZ:Tryz.f115.results.toList=[.tmp 2]:=rfl
theorem GY:Tryz.f116.results.toList=[.tmp 2]:=rfl
theorem GX:Tryz.f117.results.toList=[.tmp 8]:=rfl
theorem GW:Tryz.f118.results.toList=[.tmp 12]:=rfl
theorem GV:Tryz.f119.results.toList=[.tmp 6,.tmp 7]:=rfl
theorem GU:Tryz.f120.results.toList=[.tmp 2]:=rfl
theorem GT:Tryz.f121.results.toList=[.tmp 2]:=rfl
theorem GR:Tryz.f122.results.toList=[.tmp 2]:=rfl
theorem ic:Tryz.f123.results.toList=[.tmp 2]:=rfl
theorem qO:Tryz.f124.results.toList=[.tmp 2,.tmp 3]:=rfl
theorem GQ:Tryz.f125.results.toList=[.tmp 10,.tmp 11]:=rfl
theorem GP:Tryz.f126.results.toList=[.tmp 2]:=rfl
theorem GO:Tryz.f127.results.toList=[.tmp 2]:=rfl
theorem GN:Tryz.f128.results.toList=[.tmp 2]:=rfl
theorem AX:Tryz.f129.results.toList=[.tmp 2]:=rfl
theorem AW:Tryz.f130.results.toList=[.tmp 2]:=rfl
theorem ly:Tryz.f131.results.toList=[.tmp 2]:=rfl
theorem ib:Tryz.f132.results.toList=[.tmp 2]:=rfl
theorem AV:Tryz.f133.results.toList=[.tmp 4,.tmp 5]:=rfl
theorem GM:Tryz.f134.results.toList=[.tmp 4]:=rfl
theorem AU:Tryz.f135.results.toList=[.tmp 2]:=rfl
theorem GL:Tryz.f136.results.toList=[.tmp 2,.tmp 3,.tmp 4]:=rfl
theorem GK:Tryz.f137.results.toList=[.tmp 2]:=rfl
theorem GJ:Tryz.f138.results.toList=[.tmp 4]:=rfl
theorem qN:Tryz.f139.results.toList=[.tmp 2]:=rfl
theorem u7:Tryz.f140.results.toList=[.tmp 2]:=rfl
theorem u6:Tryz.f141.results.toList=[.tmp 2]:=rfl
theorem u4:Tryz.f142.results.toList=[]:=rfl
theorem GI:Tryz.f143.results.toList=[]:=rfl
theorem GH:Tryz.f144.results.toList=[.tmp 4]:=rfl
theorem AT:Tryz.f145.results.toList=[.tmp 2]:=rfl
theorem AS:Tryz.f146.results.toList=[.tmp 4]:=rfl
theorem AR:Tryz.f147.results.toList=[.tmp 2]:=rfl
theorem GF:Tryz.f148.results.toList=[.tmp 2,.tmp 3]:=rfl
theorem GD:Tryz.f149.results.toList=[.tmp 2]:=rfl
theorem GC:Tryz.f150.results.toList=[.tmp 2]:=rfl
theorem GA:Tryz.f151.results.toList=[]:=rfl
theorem Gz:Tryz.f152.results.toList=[.tmp 10,.tmp 11]:=rfl
theorem nM:Tryz.f153.results.toList=[.tmp 2,.tmp 3]:=rfl
theorem Gy:Tryz.f154.results.toList=[]:=rfl
theorem Gx:Tryz.f155.results.toList=[]:=rfl
theorem AQ:Tryz.f156.results.toList=[.tmp 4]:=rfl
theorem AP:Tryz.f157.results.toList=[.tmp 2]:=rfl
theorem j7:Tryz.f158.results.toList=[.tmp 2]:=rfl
theorem Gw:Tryz.f159.results.toList=[.tmp 2]:=rfl
theorem Gv:Tryz.f160.results.toList=[.tmp 2]:=rfl
theorem Gu:Tryz.f161.results.toList=[.tmp 2]:=rfl
theorem Gt:Tryz.f162.results.toList=[.tmp 2]:=rfl
theorem Gs:Tryz.f163.results.toList=[.tmp 2]:=rfl
theorem Gr:Tryz.f164.results.toList=[]:=rfl
theorem Gq:Tryz.f165.results.toList=[]:=rfl
theorem AO:Tryz.f166.results.toList=[.tmp 4]:=rfl
theorem Gp:Tryz.f167.results.toList=[.tmp 2]:=rfl
theorem Gn:Tryz.f168.results.toList=[.tmp 2]:=rfl
theorem u0:Tryz.f169.results.toList=[.tmp 4]:=rfl
theorem Gm:Tryz.f170.results.toList=[]:=rfl
theorem Gl:Tryz.f171.results.toList=[]:=rfl
theorem Gk:Tryz.f172.results.toList=[]:=rfl
theorem Gj:Tryz.f173.results.toList=[]:=rfl
theorem Gi:Tryz.f174.results.toList=[]:=rfl
theorem Gg:Tryz.f175.results.toList=[]:=rfl
theorem Gf:Tryz.f176.results.toList=[]:=rfl
theorem Ge:Tryz.f177.results.toList=[]:=rfl
theorem Gc:Tryz.f178.results.toList=[]:=rfl
theorem Gb:Tryz.f179.results.toList=[]:=rfl
theorem Ga:Tryz.f180.results.toList=[]:=rfl
theorem F9:Tryz.f181.results.toList=[]:=rfl
theorem F8:Tryz.f182.results.toList=[]:=rfl
theorem F7:Tryz.f183.results.toList=[]:=rfl
theorem F6:Tryz.f184.results.toList=[]:=rfl
theorem F5:Tryz.f185.results.toList=[]:=rfl
theorem F4:Tryz.f186.results.toList=[]:=rfl
theorem F1:Tryz.f187.results.toList=[]:=rfl
theorem FZ:Tryz.f188.results.toList=[]:=rfl
theorem FY:Tryz.f189.results.toList=[]:=rfl
theorem FX:Tryz.f190.results.toList=[]:=rfl
theorem FW:Tryz.f191.results.toList=[]:=rfl
theorem FV:Tryz.f192.results.toList=[]:=rfl
theorem FU:Tryz.f193.results.toList=[]:=rfl
theorem FT:Tryz.f194.results.toList=[]:=rfl
theorem FS:Tryz.f195.results.toList=[]:=rfl
theorem FQ:Tryz.f196.results.toList=[]:=rfl
theorem FP:Tryz.f197.results.toList=[]:=rfl
attribute [go_sem] qi3 qi4 qi5 qi9 qi22 qi23 qi24 qi26 Ml H3 H1 H0 qi27 qi31 qi38 qi40 Mk HQ Hz Hy qi41 qi43 Mj Hx Hw qi44 qi46 Mi Hv Hu qi48 qi53 Mh Ht Hs Hr qi54 qi63 Mg Hq Hp qi64 qi66 Mf Ho Hn qi71 qi73 qi74 qi75 qi77 Me Hm Hl Hk Hj Hi qi78 qi79 qi81 Md Hh Hg qi86 qi91 Mc Hf He Hd Hc KH KG Je Du Dt KF Jd Ds Dr Dq KE Jc Dp Do Dn KD KC KB KA Jb Dl Dk Dj Kz H6 Ky Di Dh res0 res1 res2 res3 res4 uZ Nh nK res8 sO mn pT Fb Fa pS E9 Kw E8 AN sW Kv Ku wO AM pR E7 E6 jN AK Kt Ks wN sV AJ E5 E4 Kr E3 E2 AI AH AG mm Kq Ko AF sU Km Kl E1 Kk wM AE AD nL E0 EZ sT Kj sS AC EY Ki Kg Kf EX Ke Kd Kc Ka AB EW AA wL sR pQ Az wK pP Ay sQ sP pO Ax Aw nJ Av J9 J8 J7 J6 J5 J4 J3 J2 J1 J0 JZ EV wJ A0 qQ G7 G6 G5 G4 G3 vb iU lz qP AZ va AY G0 GZ GY GX GW GV GU GT GR ic qO GQ GP GO GN AX AW ly ib AV GM AU GL GK GJ qN u7 u6 u4 GI GH AT AS AR GF GD GC GA Gz nM Gy Gx AQ AP j7 Gw Gv Gu Gt Gs Gr Gq AO Gp Gn u0 Gm Gl Gk Gj Gi Gg Gf Ge Gc Gb Ga F9 F8 F7 F6 F5 F4 F1 FZ FY FX FW FV FU FT FS FQ FP
end Go.Proofs.YteldpmgepfaiiaaGreatDoor
