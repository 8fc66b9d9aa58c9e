/- Walks of functions that the claim reaches, and plain facts of them. Conditions: those in the statements. -/
import Derived.Test.YteldpmgepfaiiaaGreatDoorQrRunj
import Derived.Test.YteldpmgepfaiiaaGreatDoorRows
import Derived.KernelRfl
set_option linter.unusedSimpArgs false
set_option linter.unusedVariables false
namespace Go.Proofs.YteldpmgepfaiiaaGreatDoor
theorem qi3:qi Tryz.prog 3=⟨.int .i64,1,8,true,[.int .i64 0]⟩:=by kernel_rfl
theorem qi4:qi Tryz.prog 4=⟨.bool,1,1,true,[.bool false]⟩:=by kernel_rfl
theorem qi5:qi Tryz.prog 5=⟨.int .u8,1,1,true,[.int .u8 0]⟩:=by kernel_rfl
theorem qi9:qi Tryz.prog 9=⟨.str,1,16,true,[.str []]⟩:=by kernel_rfl
theorem qi22:qi Tryz.prog 22=⟨.slice 63,1,24,true,[.lst [] .full]⟩:=by kernel_rfl
theorem qi23:qi Tryz.prog 23=⟨.slice 66,1,24,true,[.lst [] .full]⟩:=by kernel_rfl
theorem qi24:qi Tryz.prog 24=⟨.slice 43,1,24,true,[.lst [] .full]⟩:=by kernel_rfl
theorem qi26:qi Tryz.prog 26=⟨.struct,3,72,true,[.lst [] .full,.lst [] .full,.lst [] .full]⟩:=by kernel_rfl
theorem KF:fok Tryz.prog 26=true:=by kernel_rfl
theorem F7:qf Tryz.prog 26 0=some (0,1,false):=by kernel_rfl
theorem F6:qf Tryz.prog 26 1=some (1,1,false):=by kernel_rfl
theorem F5:qf Tryz.prog 26 2=some (2,1,false):=by kernel_rfl
theorem qi27:qi Tryz.prog 27=⟨.slice 46,1,24,true,[.lst [] .full]⟩:=by kernel_rfl
theorem qi31:qi Tryz.prog 31=⟨.int .i64,1,8,true,[.int .i64 0]⟩:=by kernel_rfl
theorem qi38:qi Tryz.prog 38=⟨.slice 53,1,24,true,[.lst [] .full]⟩:=by kernel_rfl
theorem qi40:qi Tryz.prog 40=⟨.struct,3,48,true,[.bool false,.str [],.lst [] .full]⟩:=by kernel_rfl
theorem KE:fok Tryz.prog 40=true:=by kernel_rfl
theorem F4:qf Tryz.prog 40 0=some (0,1,false):=by kernel_rfl
theorem F1:qf Tryz.prog 40 1=some (1,1,false):=by kernel_rfl
theorem FZ:qf Tryz.prog 40 2=some (2,1,false):=by kernel_rfl
theorem qi41:qi Tryz.prog 41=⟨.slice 40,1,24,true,[.lst [] .full]⟩:=by kernel_rfl
theorem qi43:qi Tryz.prog 43=⟨.struct,4,72,true,[.bool false,.str [],.lst [] .full,.lst [] .full]⟩:=by kernel_rfl
theorem KD:fok Tryz.prog 43=true:=by kernel_rfl
theorem FY:qf Tryz.prog 43 0=some (0,3,true):=by kernel_rfl
theorem FX:qf Tryz.prog 43 1=some (3,1,false):=by kernel_rfl
theorem qi44:qi Tryz.prog 44=⟨.slice 48,1,24,true,[.lst [] .full]⟩:=by kernel_rfl
theorem qi46:qi Tryz.prog 46=⟨.struct,2,40,true,[.str [],.lst [] .full]⟩:=by kernel_rfl
theorem KC:fok Tryz.prog 46=true:=by kernel_rfl
theorem FW:qf Tryz.prog 46 0=some (0,1,false):=by kernel_rfl
theorem FV:qf Tryz.prog 46 1=some (1,1,false):=by kernel_rfl
theorem qi48:qi Tryz.prog 48=⟨.slice 3,1,24,true,[.lst [] .full]⟩:=by kernel_rfl
theorem qi53:qi Tryz.prog 53=⟨.struct,3,32,true,[.bool false,.str [],.int .i64 0]⟩:=by kernel_rfl
theorem KB:fok Tryz.prog 53=true:=by kernel_rfl
theorem FU:qf Tryz.prog 53 0=some (0,1,false):=by kernel_rfl
theorem FT:qf Tryz.prog 53 1=some (1,1,false):=by kernel_rfl
theorem FS:qf Tryz.prog 53 2=some (2,1,false):=by kernel_rfl
theorem qi54:qi Tryz.prog 54=⟨.func,1,8,true,[.raw .nilFunc]⟩:=by kernel_rfl
theorem qi63:qi Tryz.prog 63=⟨.struct,2,24,true,[.str [],.int .i64 0]⟩:=by kernel_rfl
theorem KA:fok Tryz.prog 63=true:=by kernel_rfl
theorem FQ:qf Tryz.prog 63 0=some (0,1,false):=by kernel_rfl
theorem FP:qf Tryz.prog 63 1=some (1,1,false):=by kernel_rfl
theorem qi64:qi Tryz.prog 64=⟨.slice 9,1,24,true,[.lst [] .full]⟩:=by kernel_rfl
theorem qi66:qi Tryz.prog 66=⟨.struct,2,40,true,[.str [],.lst [] .full]⟩:=by kernel_rfl
theorem Kz:fok Tryz.prog 66=true:=by kernel_rfl
theorem FO:qf Tryz.prog 66 0=some (0,1,false):=by kernel_rfl
theorem FN:qf Tryz.prog 66 1=some (1,1,false):=by kernel_rfl
theorem qi71:qi Tryz.prog 71=⟨.ptr,1,8,true,[.raw (.pointer none)]⟩:=by kernel_rfl
theorem qi73:qi Tryz.prog 73=⟨.map 9 3,1,8,true,[.raw (.map none)]⟩:=by kernel_rfl
theorem qi74:qi Tryz.prog 74=⟨.slice 78,1,24,true,[.lst [] .full]⟩:=by kernel_rfl
theorem qi75:qi Tryz.prog 75=⟨.slice 64,1,24,true,[.lst [] .full]⟩:=by kernel_rfl
theorem qi77:qi Tryz.prog 77=⟨.struct,7,136,true,[.lst [] .full,.lst [] .full,.lst [] .full,.raw (.map none),.raw (.map none),.lst [] .full,.lst [] .full]⟩:=by kernel_rfl
theorem Ky:fok Tryz.prog 77=true:=by kernel_rfl
theorem FM:qf Tryz.prog 77 0=some (0,3,true):=by kernel_rfl
theorem FK:qf Tryz.prog 77 1=some (3,1,false):=by kernel_rfl
theorem FJ:qf Tryz.prog 77 2=some (4,1,false):=by kernel_rfl
theorem FI:qf Tryz.prog 77 3=some (5,1,false):=by kernel_rfl
theorem FH:qf Tryz.prog 77 4=some (6,1,false):=by kernel_rfl
theorem qi78:qi Tryz.prog 78=⟨.ptr,1,8,true,[.raw (.pointer none)]⟩:=by kernel_rfl
theorem qi79:qi Tryz.prog 79=⟨.map 9 4,1,8,true,[.raw (.map none)]⟩:=by kernel_rfl
theorem qi81:qi Tryz.prog 81=⟨.struct,2,32,true,[.lst [] .full,.raw (.map none)]⟩:=by kernel_rfl
theorem Kx:fok Tryz.prog 81=true:=by kernel_rfl
theorem FG:qf Tryz.prog 81 0=some (0,1,false):=by kernel_rfl
theorem FF:qf Tryz.prog 81 1=some (1,1,false):=by kernel_rfl
theorem qi86:qi Tryz.prog 86=⟨.slice 131,1,24,true,[.lst [] .full]⟩:=by kernel_rfl
theorem qi91:qi Tryz.prog 91=⟨.struct,5,56,true,[.lst [] .full,.int .i64 0,.int .i64 0,.int .i64 0,.int .i64 0]⟩:=by kernel_rfl
theorem Kw:fok Tryz.prog 91=true:=by kernel_rfl
theorem FE:qf Tryz.prog 91 0=some (0,1,false):=by kernel_rfl
theorem FD:qf Tryz.prog 91 1=some (1,1,false):=by kernel_rfl
theorem FC:qf Tryz.prog 91 2=some (2,1,false):=by kernel_rfl
theorem FA:qf Tryz.prog 91 3=some (3,1,false):=by kernel_rfl
theorem Je:qi Tryz.prog 111=⟨.func,1,8,true,[.raw .nilFunc]⟩:=by kernel_rfl
theorem Jd:qi Tryz.prog 114=⟨.struct,2,48,true,[.lst [] .full,.lst [] .full]⟩:=by kernel_rfl
theorem Hp:fok Tryz.prog 114=true:=by kernel_rfl
theorem B3:qf Tryz.prog 114 0=some (0,1,false):=by kernel_rfl
theorem BZ:qf Tryz.prog 114 1=some (1,1,false):=by kernel_rfl
theorem Jc:qi Tryz.prog 131=⟨.struct,3,32,true,[.int .i64 0,.str [],.int .i64 0]⟩:=by kernel_rfl
theorem Ho:fok Tryz.prog 131=true:=by kernel_rfl
theorem BY:qf Tryz.prog 131 0=some (0,1,false):=by kernel_rfl
theorem BX:qf Tryz.prog 131 1=some (1,1,false):=by kernel_rfl
theorem BW:qf Tryz.prog 131 2=some (2,1,false):=by kernel_rfl
theorem Jb:qi Tryz.prog 147=⟨.struct,3,56,true,[.lst [] .full,.lst [] .full,.raw (.map none)]⟩:=by kernel_rfl
theorem Hn:fok Tryz.prog 147=true:=by kernel_rfl
theorem BV:qf Tryz.prog 147 0=some (0,1,false):=by kernel_rfl
theorem BU:qf Tryz.prog 147 1=some (1,1,false):=by kernel_rfl
theorem BT:qf Tryz.prog 147 2=some (2,1,false):=by kernel_rfl
theorem Ja:qi Tryz.prog 148=⟨.slice 4,1,24,true,[.lst [] .full]⟩:=by kernel_rfl
theorem I9:qi Tryz.prog 149=⟨.func,1,8,true,[.raw .nilFunc]⟩:=by kernel_rfl
theorem I8:qi Tryz.prog 156=⟨.slice 5,1,24,true,[.lst [] .full]⟩:=by kernel_rfl
theorem I7:qi Tryz.prog 183=⟨.struct,5,88,true,[.lst [] .full,.lst [] .full,.lst [] .full,.raw (.map none),.raw (.map none)]⟩:=by kernel_rfl
theorem Hm:fok Tryz.prog 183=true:=by kernel_rfl
theorem BS:qf Tryz.prog 183 0=some (0,3,true):=by kernel_rfl
theorem BR:qf Tryz.prog 183 1=some (3,1,false):=by kernel_rfl
theorem BQ:qf Tryz.prog 183 2=some (4,1,false):=by kernel_rfl
theorem I6:qi Tryz.prog 207=⟨.ptr,1,8,true,[.raw (.pointer none)]⟩:=by kernel_rfl
theorem F9:pok Tryz.prog 207=true:=by kernel_rfl
theorem I5:qi Tryz.prog 209=⟨.struct,2,32,true,[.raw (.pointer none),.lst [] .full]⟩:=by kernel_rfl
theorem BP:qf Tryz.prog 209 0=some (0,1,false):=by kernel_rfl
theorem BO:qf Tryz.prog 209 1=some (1,1,false):=by kernel_rfl
theorem CW:aq Tryz.prog 9:=am Tryz.func9 (by kernel_rfl) rfl
theorem AT:aq Tryz.prog 10:=am Tryz.func10 (by kernel_rfl) rfl
theorem sw:aq Tryz.prog 12:=am Tryz.func12 (by kernel_rfl) rfl
theorem K9:aq Tryz.prog 13:=am Tryz.func13 (by kernel_rfl) rfl
theorem D7:aq Tryz.prog 14:=am Tryz.func14 (by kernel_rfl) rfl
theorem D8:aq Tryz.prog 16:=am Tryz.func16 (by kernel_rfl) rfl
theorem K7:aq Tryz.prog 17:=am Tryz.func17 (by kernel_rfl) rfl
theorem lI:aq Tryz.prog 18:=am Tryz.func18 (by kernel_rfl) rfl
theorem D6:aq Tryz.prog 19:=am Tryz.func19 (by kernel_rfl) rfl
theorem D5:aq Tryz.prog 22:=am Tryz.func22 (by kernel_rfl) rfl
theorem D4:aq Tryz.prog 23:=am Tryz.func23 (by kernel_rfl) rfl
theorem K6:aq Tryz.prog 24:=am Tryz.func24 (by kernel_rfl) rfl
theorem D3:aq Tryz.prog 25:=am Tryz.func25 (by kernel_rfl) rfl
theorem K5:aq Tryz.prog 26:=am Tryz.func26 (by kernel_rfl) rfl
theorem K4:aq Tryz.prog 27:=am Tryz.func27 (by kernel_rfl) rfl
theorem K3:aq Tryz.prog 28:=am Tryz.func28 (by kernel_rfl) rfl
theorem D2:aq Tryz.prog 29:=am Tryz.func29 (by kernel_rfl) rfl
theorem AA:aq Tryz.prog 30:=am Tryz.func30 (by kernel_rfl) rfl
theorem py:aq Tryz.prog 31:=am Tryz.func31 (by kernel_rfl) rfl
theorem K2:aq Tryz.prog 32:=am Tryz.func32 (by kernel_rfl) rfl
theorem ip:aq Tryz.prog 33:=am Tryz.func33 (by kernel_rfl) rfl
theorem px:aq Tryz.prog 34:=am Tryz.func34 (by kernel_rfl) rfl
theorem lH:aq Tryz.prog 35:=am Tryz.func35 (by kernel_rfl) rfl
theorem D1:aq Tryz.prog 36:=am Tryz.func36 (by kernel_rfl) rfl
theorem lG:aq Tryz.prog 37:=am Tryz.func37 (by kernel_rfl) rfl
theorem K1:aq Tryz.prog 38:=am Tryz.func38 (by kernel_rfl) rfl
theorem wd:aq Tryz.prog 39:=am Tryz.func39 (by kernel_rfl) rfl
theorem K0:aq Tryz.prog 40:=am Tryz.func40 (by kernel_rfl) rfl
theorem fb:aq Tryz.prog 41:=am Tryz.func41 (by kernel_rfl) rfl
theorem D0:aq Tryz.prog 42:=am Tryz.func42 (by kernel_rfl) rfl
theorem DZ:aq Tryz.prog 45:=am Tryz.func45 (by kernel_rfl) rfl
theorem KZ:aq Tryz.prog 46:=am Tryz.func46 (by kernel_rfl) rfl
theorem KY:aq Tryz.prog 49:=am Tryz.func49 (by kernel_rfl) rfl
theorem Az:aq Tryz.prog 51:=am Tryz.func51 (by kernel_rfl) rfl
theorem Ay:aq Tryz.prog 52:=am Tryz.func52 (by kernel_rfl) rfl
theorem KX:aq Tryz.prog 53:=am Tryz.func53 (by kernel_rfl) rfl
theorem v8:aq Tryz.prog 54:=am Tryz.func54 (by kernel_rfl) rfl
theorem KW:aq Tryz.prog 55:=am Tryz.func55 (by kernel_rfl) rfl
theorem Ax:aq Tryz.prog 56:=am Tryz.func56 (by kernel_rfl) rfl
theorem su:aq Tryz.prog 57:=am Tryz.func57 (by kernel_rfl) rfl
theorem Aw:aq Tryz.prog 58:=am Tryz.func58 (by kernel_rfl) rfl
theorem KV:aq Tryz.prog 59:=am Tryz.func59 (by kernel_rfl) rfl
theorem KU:aq Tryz.prog 60:=am Tryz.func60 (by kernel_rfl) rfl
theorem kr:aq Tryz.prog 61:=am Tryz.func61 (by kernel_rfl) rfl
theorem pw:aq Tryz.prog 65:=am Tryz.func65 (by kernel_rfl) rfl
theorem pv:aq Tryz.prog 70:=am Tryz.func70 (by kernel_rfl) rfl
theorem v7:aq Tryz.prog 71:=am Tryz.func71 (by kernel_rfl) rfl
theorem DY:aq Tryz.prog 72:=am Tryz.func72 (by kernel_rfl) rfl
theorem ss:aq Tryz.prog 73:=am Tryz.func73 (by kernel_rfl) rfl
theorem DX:aq Tryz.prog 74:=am Tryz.func74 (by kernel_rfl) rfl
theorem Av:aq Tryz.prog 75:=am Tryz.func75 (by kernel_rfl) rfl
theorem DW:aq Tryz.prog 76:=am Tryz.func76 (by kernel_rfl) rfl
theorem DV:aq Tryz.prog 77:=am Tryz.func77 (by kernel_rfl) rfl
theorem Au:aq Tryz.prog 78:=am Tryz.func78 (by kernel_rfl) rfl
theorem sp:aq Tryz.prog 79:=am Tryz.func79 (by kernel_rfl) rfl
theorem DU:aq Tryz.prog 80:=am Tryz.func80 (by kernel_rfl) rfl
theorem As:aq Tryz.prog 81:=am Tryz.func81 (by kernel_rfl) rfl
theorem pu:aq Tryz.prog 82:=am Tryz.func82 (by kernel_rfl) rfl
theorem vZ:aq Tryz.prog 83:=am Tryz.func83 (by kernel_rfl) rfl
theorem vY:aq Tryz.prog 84:=am Tryz.func84 (by kernel_rfl) rfl
theorem DT:aq Tryz.prog 85:=am Tryz.func85 (by kernel_rfl) rfl
theorem DS:aq Tryz.prog 86:=am Tryz.func86 (by kernel_rfl) rfl
theorem Ar:aq Tryz.prog 98:=am Tryz.func98 (by kernel_rfl) rfl
theorem KT:aq Tryz.prog 99:=am Tryz.func99 (by kernel_rfl) rfl
theorem AS:aq Tryz.prog 100:=am Tryz.func100 (by kernel_rfl) rfl
theorem H9:aq Tryz.prog 101:=am Tryz.func101 (by kernel_rfl) rfl
theorem AR:aq Tryz.prog 107:=am Tryz.func107 (by kernel_rfl) rfl
theorem AQ:aq Tryz.prog 108:=am Tryz.func108 (by kernel_rfl) rfl
theorem qr:aq Tryz.prog 109:=am Tryz.func109 (by kernel_rfl) rfl
theorem AP:aq Tryz.prog 110:=am Tryz.func110 (by kernel_rfl) rfl
theorem H8:aq Tryz.prog 111:=am Tryz.func111 (by kernel_rfl) rfl
theorem uC:aq Tryz.prog 112:=am Tryz.func112 (by kernel_rfl) rfl
theorem AO:aq Tryz.prog 113:=am Tryz.func113 (by kernel_rfl) rfl
theorem AN:aq Tryz.prog 122:=am Tryz.func122 (by kernel_rfl) rfl
theorem AM:aq Tryz.prog 123:=am Tryz.func123 (by kernel_rfl) rfl
theorem H7:aq Tryz.prog 124:=am Tryz.func124 (by kernel_rfl) rfl
theorem kZ:aq Tryz.prog 129:=am Tryz.func129 (by kernel_rfl) rfl
theorem AK:aq Tryz.prog 130:=am Tryz.func130 (by kernel_rfl) rfl
theorem AJ:aq Tryz.prog 131:=am Tryz.func131 (by kernel_rfl) rfl
theorem AI:aq Tryz.prog 132:=am Tryz.func132 (by kernel_rfl) rfl
theorem qp:aq Tryz.prog 133:=am Tryz.func133 (by kernel_rfl) rfl
theorem qo:aq Tryz.prog 134:=am Tryz.func134 (by kernel_rfl) rfl
theorem AH:aq Tryz.prog 135:=am Tryz.func135 (by kernel_rfl) rfl
theorem AG:aq Tryz.prog 136:=am Tryz.func136 (by kernel_rfl) rfl
theorem AF:aq Tryz.prog 137:=am Tryz.func137 (by kernel_rfl) rfl
theorem H6:aq Tryz.prog 139:=am Tryz.func139 (by kernel_rfl) rfl
theorem nB:aq Tryz.prog 140:=am Tryz.func140 (by kernel_rfl) rfl
theorem AE:aq Tryz.prog 141:=am Tryz.func141 (by kernel_rfl) rfl
theorem H5:aq Tryz.prog 142:=am Tryz.func142 (by kernel_rfl) rfl
theorem qn:aq Tryz.prog 144:=am Tryz.func144 (by kernel_rfl) rfl
theorem H4:aq Tryz.prog 145:=am Tryz.func145 (by kernel_rfl) rfl
theorem AD:aq Tryz.prog 146:=am Tryz.func146 (by kernel_rfl) rfl
theorem H3:aq Tryz.prog 147:=am Tryz.func147 (by kernel_rfl) rfl
theorem uB:aq Tryz.prog 148:=am Tryz.func148 (by kernel_rfl) rfl
theorem AC:aq Tryz.prog 153:=am Tryz.func153 (by kernel_rfl) rfl
theorem H1:aq Tryz.prog 156:=am Tryz.func156 (by kernel_rfl) rfl
theorem nA:aq Tryz.prog 157:=am Tryz.func157 (by kernel_rfl) rfl
theorem AB:aq Tryz.prog 158:=am Tryz.func158 (by kernel_rfl) rfl
theorem H0:aq Tryz.prog 159:=am Tryz.func159 (by kernel_rfl) rfl
theorem uA:aq Tryz.prog 166:=am Tryz.func166 (by kernel_rfl) rfl
theorem HQ:aq Tryz.prog 169:=am Tryz.func169 (by kernel_rfl) rfl
theorem res0:Tryz.f0.results.toList=[]:=rfl
theorem res1:Tryz.f1.results.toList=[]:=rfl
theorem res2:Tryz.f2.results.toList=[]:=rfl
theorem xh:Tryz.f3.results.toList=[.tmp 4]:=rfl
theorem j2:Tryz.f4.results.toList=[.tmp 4]:=rfl
theorem BN:Tryz.f5.results.toList=[.tmp 4]:=rfl
theorem res6:Tryz.f6.results.toList=[.tmp 2]:=rfl
theorem LB:Tryz.f7.results.toList=[.tmp 4]:=rfl
theorem res8:Tryz.f8.results.toList=[.tmp 6]:=rfl
theorem rx:Tryz.f9.results.toList=[.tmp 2]:=rfl
theorem ly:Tryz.f10.results.toList=[.tmp 2]:=rfl
theorem oZ:Tryz.f11.results.toList=[.tmp 2]:=rfl
theorem DP:Tryz.f12.results.toList=[.tmp 0]:=rfl
theorem DO:Tryz.f13.results.toList=[.tmp 4,.tmp 5,.tmp 6]:=rfl
theorem oY:Tryz.f14.results.toList=[.tmp 4,.tmp 5]:=rfl
theorem DN:Tryz.f15.results.toList=[.tmp 4]:=rfl
theorem I3:Tryz.f16.results.toList=[.tmp 4]:=rfl
theorem DM:Tryz.f17.results.toList=[.cell 2 26,.tmp 3,.tmp 4]:=rfl
theorem ze:Tryz.f18.results.toList=[.tmp 4]:=rfl
theorem rF:Tryz.f19.results.toList=[.tmp 4]:=rfl
theorem I2:Tryz.f20.results.toList=[.tmp 6,.tmp 7,.tmp 8]:=rfl
theorem I1:Tryz.f21.results.toList=[.tmp 6,.tmp 7]:=rfl
theorem vi:Tryz.f22.results.toList=[.tmp 4]:=rfl
theorem zd:Tryz.f23.results.toList=[.tmp 2]:=rfl
theorem oX:Tryz.f24.results.toList=[.tmp 8,.tmp 9,.tmp 10]:=rfl
theorem DL:Tryz.f25.results.toList=[.tmp 2,.tmp 3]:=rfl
theorem DK:Tryz.f26.results.toList=[.tmp 2]:=rfl
theorem jr:Tryz.f27.results.toList=[.tmp 4]:=rfl
theorem zc:Tryz.f28.results.toList=[.tmp 4]:=rfl
theorem I0:Tryz.f29.results.toList=[]:=rfl
theorem IZ:Tryz.f30.results.toList=[.tmp 4]:=rfl
theorem vh:Tryz.f31.results.toList=[.tmp 4]:=rfl
theorem rE:Tryz.f32.results.toList=[.tmp 2,.tmp 3,.tmp 4]:=rfl
theorem zb:Tryz.f33.results.toList=[.tmp 4]:=rfl
theorem DJ:Tryz.f34.results.toList=[]:=rfl
theorem DI:Tryz.f35.results.toList=[.tmp 4]:=rfl
theorem IY:Tryz.f36.results.toList=[.tmp 2,.tmp 3]:=rfl
theorem DH:Tryz.f37.results.toList=[]:=rfl
theorem DG:Tryz.f38.results.toList=[.cell 2 66]:=rfl
theorem za:Tryz.f39.results.toList=[.tmp 8]:=rfl
theorem yZ:Tryz.f40.results.toList=[.cell 2 43]:=rfl
theorem yY:Tryz.f41.results.toList=[.tmp 4]:=rfl
theorem lx:Tryz.f42.results.toList=[.tmp 6]:=rfl
theorem IX:Tryz.f43.results.toList=[.tmp 4,.tmp 5,.tmp 6]:=rfl
theorem IW:Tryz.f44.results.toList=[.tmp 4]:=rfl
theorem yX:Tryz.f45.results.toList=[.tmp 10,.tmp 11]:=rfl
theorem rD:Tryz.f46.results.toList=[.tmp 4,.tmp 5,.tmp 6]:=rfl
theorem IU:Tryz.f47.results.toList=[.tmp 6]:=rfl
theorem IT:Tryz.f48.results.toList=[.tmp 4]:=rfl
theorem DF:Tryz.f49.results.toList=[]:=rfl
theorem IS:Tryz.f50.results.toList=[.tmp 3]:=rfl
theorem vg:Tryz.f51.results.toList=[.tmp 4]:=rfl
theorem yW:Tryz.f52.results.toList=[.tmp 2,.tmp 3]:=rfl
theorem yV:Tryz.f53.results.toList=[.tmp 4]:=rfl
theorem mQ:Tryz.f54.results.toList=[.cell 4 114,.tmp 5]:=rfl
theorem DE:Tryz.f55.results.toList=[.tmp 6]:=rfl
theorem DD:Tryz.f56.results.toList=[.tmp 6]:=rfl
theorem rC:Tryz.f57.results.toList=[.tmp 2,.tmp 3,.tmp 4,.tmp 5]:=rfl
theorem IR:Tryz.f58.results.toList=[.tmp 2]:=rfl
theorem rB:Tryz.f59.results.toList=[.tmp 7]:=rfl
theorem yU:Tryz.f60.results.toList=[.tmp 4]:=rfl
theorem DC:Tryz.f61.results.toList=[.tmp 2]:=rfl
theorem IQ:Tryz.f62.results.toList=[]:=rfl
theorem IP:Tryz.f63.results.toList=[.tmp 2]:=rfl
theorem IO:Tryz.f64.results.toList=[.tmp 4]:=rfl
theorem DB:Tryz.f65.results.toList=[.cell 4 131,.tmp 5]:=rfl
theorem IN:Tryz.f66.results.toList=[]:=rfl
theorem IM:Tryz.f67.results.toList=[.tmp 2]:=rfl
theorem IL:Tryz.f68.results.toList=[.tmp 2,.tmp 3]:=rfl
theorem IK:Tryz.f69.results.toList=[.tmp 10]:=rfl
theorem yT:Tryz.f70.results.toList=[.tmp 2]:=rfl
theorem DA:Tryz.f71.results.toList=[.cell 2 40]:=rfl
theorem yS:Tryz.f72.results.toList=[.cell 2 40]:=rfl
theorem vf:Tryz.f73.results.toList=[.tmp 4]:=rfl
theorem rA:Tryz.f74.results.toList=[.tmp 2,.tmp 3]:=rfl
theorem oW:Tryz.f75.results.toList=[.tmp 8,.tmp 9]:=rfl
theorem yR:Tryz.f76.results.toList=[.tmp 4]:=rfl
theorem ve:Tryz.f77.results.toList=[.tmp 4]:=rfl
theorem oV:Tryz.f78.results.toList=[.tmp 4,.tmp 5]:=rfl
theorem yQ:Tryz.f79.results.toList=[.tmp 4]:=rfl
theorem rz:Tryz.f80.results.toList=[.tmp 11]:=rfl
theorem ry:Tryz.f81.results.toList=[.tmp 2,.tmp 3]:=rfl
theorem oU:Tryz.f82.results.toList=[.cell 6 114,.tmp 7]:=rfl
theorem yP:Tryz.f83.results.toList=[.tmp 4]:=rfl
theorem yO:Tryz.f84.results.toList=[.tmp 4]:=rfl
theorem mP:Tryz.f85.results.toList=[.tmp 2,.tmp 3]:=rfl
theorem yN:Tryz.f86.results.toList=[.tmp 2,.tmp 3]:=rfl
theorem IJ:Tryz.f87.results.toList=[]:=rfl
theorem II:Tryz.f88.results.toList=[]:=rfl
theorem IH:Tryz.f89.results.toList=[]:=rfl
theorem IG:Tryz.f90.results.toList=[.tmp 8,.tmp 9]:=rfl
theorem IF:Tryz.f91.results.toList=[]:=rfl
theorem IE:Tryz.f92.results.toList=[.tmp 8]:=rfl
theorem ID:Tryz.f93.results.toList=[.tmp 10]:=rfl
theorem IC:Tryz.f94.results.toList=[.tmp 10,.tmp 11]:=rfl
theorem IB:Tryz.f95.results.toList=[.tmp 2]:=rfl
theorem IA:Tryz.f96.results.toList=[.tmp 2]:=rfl
theorem Iz:Tryz.f97.results.toList=[.tmp 2]:=rfl
theorem Dz:Tryz.f98.results.toList=[.tmp 2]:=rfl
theorem vd:Tryz.f99.results.toList=[.tmp 6]:=rfl
theorem zt:Tryz.f100.results.toList=[.tmp 2]:=rfl
theorem pS:Tryz.f101.results.toList=[.tmp 4]:=rfl
theorem Fu:Tryz.f102.results.toList=[.tmp 6,.tmp 7]:=rfl
theorem Ft:Tryz.f103.results.toList=[.tmp 4]:=rfl
theorem Fs:Tryz.f104.results.toList=[.tmp 4]:=rfl
theorem Fr:Tryz.f105.results.toList=[.tmp 6]:=rfl
theorem Fq:Tryz.f106.results.toList=[.tmp 6]:=rfl
theorem tM:Tryz.f107.results.toList=[.cell 2 53]:=rfl
theorem iC:Tryz.f108.results.toList=[.tmp 2]:=rfl
theorem kQ:Tryz.f109.results.toList=[.tmp 6]:=rfl
theorem pR:Tryz.f110.results.toList=[.tmp 4]:=rfl
theorem zr:Tryz.f111.results.toList=[.tmp 4]:=rfl
theorem tL:Tryz.f112.results.toList=[.tmp 4]:=rfl
theorem zq:Tryz.f113.results.toList=[.tmp 2]:=rfl
theorem Fp:Tryz.f114.results.toList=[]:=rfl
theorem Fo:Tryz.f115.results.toList=[.tmp 2]:=rfl
theorem Fn:Tryz.f116.results.toList=[.tmp 2]:=rfl
theorem Fm:Tryz.f117.results.toList=[.tmp 8]:=rfl
theorem Fl:Tryz.f118.results.toList=[.tmp 12]:=rfl
theorem Fk:Tryz.f119.results.toList=[.tmp 6,.tmp 7]:=rfl
theorem Fj:Tryz.f120.results.toList=[.tmp 2]:=rfl
theorem Fi:Tryz.f121.results.toList=[.tmp 2]:=rfl
theorem Fh:Tryz.f122.results.toList=[.tmp 2]:=rfl
theorem gU:Tryz.f123.results.toList=[.tmp 2]:=rfl
theorem pQ:Tryz.f124.results.toList=[.tmp 2,.tmp 3]:=rfl
theorem Ff:Tryz.f125.results.toList=[.tmp 10,.tmp 11]:=rfl
theorem Fe:Tryz.f126.results.toList=[.tmp 2]:=rfl
theorem Fd:Tryz.f127.results.toList=[.tmp 2]:=rfl
theorem Fc:Tryz.f128.results.toList=[.tmp 2]:=rfl
theorem zp:Tryz.f129.results.toList=[.tmp 2]:=rfl
theorem zn:Tryz.f130.results.toList=[.tmp 2]:=rfl
theorem kP:Tryz.f131.results.toList=[.tmp 2]:=rfl
theorem gT:Tryz.f132.results.toList=[.tmp 2]:=rfl
theorem zm:Tryz.f133.results.toList=[.tmp 4,.tmp 5]:=rfl
theorem Fb:Tryz.f134.results.toList=[.tmp 4]:=rfl
theorem zl:Tryz.f135.results.toList=[.tmp 2]:=rfl
theorem Fa:Tryz.f136.results.toList=[.tmp 2,.tmp 3,.tmp 4]:=rfl
theorem E9:Tryz.f137.results.toList=[.tmp 2]:=rfl
theorem E8:Tryz.f138.results.toList=[.tmp 4]:=rfl
theorem pP:Tryz.f139.results.toList=[.tmp 2]:=rfl
theorem tK:Tryz.f140.results.toList=[.tmp 2]:=rfl
theorem tJ:Tryz.f141.results.toList=[.tmp 2]:=rfl
theorem tI:Tryz.f142.results.toList=[]:=rfl
theorem E7:Tryz.f143.results.toList=[]:=rfl
theorem E6:Tryz.f144.results.toList=[.tmp 4]:=rfl
theorem zk:Tryz.f145.results.toList=[.tmp 2]:=rfl
theorem zj:Tryz.f146.results.toList=[.tmp 4]:=rfl
theorem zi:Tryz.f147.results.toList=[.tmp 2]:=rfl
theorem E5:Tryz.f148.results.toList=[.tmp 2,.tmp 3]:=rfl
theorem E4:Tryz.f149.results.toList=[.tmp 2]:=rfl
theorem E3:Tryz.f150.results.toList=[.tmp 2]:=rfl
theorem E2:Tryz.f151.results.toList=[]:=rfl
theorem E1:Tryz.f152.results.toList=[.tmp 10,.tmp 11]:=rfl
theorem mR:Tryz.f153.results.toList=[.tmp 2,.tmp 3]:=rfl
theorem E0:Tryz.f154.results.toList=[]:=rfl
theorem EZ:Tryz.f155.results.toList=[]:=rfl
theorem zh:Tryz.f156.results.toList=[.tmp 4]:=rfl
theorem zg:Tryz.f157.results.toList=[.tmp 2]:=rfl
theorem jF:Tryz.f158.results.toList=[.tmp 2]:=rfl
theorem EY:Tryz.f159.results.toList=[.tmp 2]:=rfl
theorem EX:Tryz.f160.results.toList=[.tmp 2]:=rfl
theorem EW:Tryz.f161.results.toList=[.tmp 2]:=rfl
theorem EV:Tryz.f162.results.toList=[.tmp 2]:=rfl
theorem EU:Tryz.f163.results.toList=[.tmp 2]:=rfl
theorem ET:Tryz.f164.results.toList=[]:=rfl
theorem ES:Tryz.f165.results.toList=[]:=rfl
theorem zf:Tryz.f166.results.toList=[.tmp 4]:=rfl
theorem ER:Tryz.f167.results.toList=[.tmp 2]:=rfl
theorem EQ:Tryz.f168.results.toList=[.tmp 2]:=rfl
theorem tH:Tryz.f169.results.toList=[.tmp 4]:=rfl
theorem EP:Tryz.f170.results.toList=[]:=rfl
theorem EO:Tryz.f171.results.toList=[]:=rfl
theorem EN:Tryz.f172.results.toList=[]:=rfl
theorem EM:Tryz.f173.results.toList=[]:=rfl
theorem EL:Tryz.f174.results.toList=[]:=rfl
theorem EK:Tryz.f175.results.toList=[]:=rfl
theorem EJ:Tryz.f176.results.toList=[]:=rfl
theorem EI:Tryz.f177.results.toList=[]:=rfl
theorem EH:Tryz.f178.results.toList=[]:=rfl
theorem EG:Tryz.f179.results.toList=[]:=rfl
theorem EF:Tryz.f180.results.toList=[]:=rfl
theorem EE:Tryz.f181.results.toList=[]:=rfl
theorem ED:Tryz.f182.results.toList=[]:=rfl
theorem EC:Tryz.f183.results.toList=[]:=rfl
theorem EB:Tryz.f184.results.toList=[]:=rfl
theorem EA:Tryz.f185.results.toList=[]:=rfl
theorem Ez:Tryz.f186.results.toList=[]:=rfl
theorem Ey:Tryz.f187.results.toList=[]:=rfl
theorem Ex:Tryz.f188.results.toList=[]:=rfl
theorem Ew:Tryz.f189.results.toList=[]:=rfl
theorem Ev:Tryz.f190.results.toList=[]:=rfl
theorem Eu:Tryz.f191.results.toList=[]:=rfl
theorem Et:Tryz.f192.results.toList=[]:=rfl
theorem Es:Tryz.f193.results.toList=[]:=rfl
theorem Er:Tryz.f194.results.toList=[]:=rfl
theorem Eq:Tryz.f195.results.toList=[]:=rfl
theorem Ep:Tryz.f196.results.toList=[]:=rfl
theorem Eo:Tryz.f197.results.toList=[]:=rfl
attribute [go_sem] qi3 qi4 qi5 qi9 qi22 qi23 qi24 qi26 KF F7 F6 F5 qi27 qi31 qi38 qi40 KE F4 F1 FZ qi41 qi43 KD FY FX qi44 qi46 KC FW FV qi48 qi53 KB FU FT FS qi54 qi63 KA FQ FP qi64 qi66 Kz FO FN qi71 qi73 qi74 qi75 qi77 Ky FM FK FJ FI FH qi78 qi79 qi81 Kx FG FF qi86 qi91 Kw FE FD FC FA Je Jd Hp B3 BZ Jc Ho BY BX BW Jb Hn BV BU BT Ja I9 I8 I7 Hm BS BR BQ I6 F9 I5 BP BO res0 res1 res2 xh j2 BN res6 LB res8 rx ly oZ DP DO oY DN I3 DM ze rF I2 I1 vi zd oX DL DK jr zc I0 IZ vh rE zb DJ DI IY DH DG za yZ yY lx IX IW yX rD IU IT DF IS vg yW yV mQ DE DD rC IR rB yU DC IQ IP IO DB IN IM IL IK yT DA yS vf rA oW yR ve oV yQ rz ry oU yP yO mP yN IJ II IH IG IF IE ID IC IB IA Iz Dz vd zt pS Fu Ft Fs Fr Fq tM iC kQ pR zr tL zq Fp Fo Fn Fm Fl Fk Fj Fi Fh gU pQ Ff Fe Fd Fc zp zn kP gT zm Fb zl Fa E9 E8 pP tK tJ tI E7 E6 zk zj zi E5 E4 E3 E2 E1 mR E0 EZ zh zg jF EY EX EW EV EU ET ES zf ER EQ tH EP EO EN EM EL EK EJ EI EH EG EF EE ED EC EB EA Ez Ey Ex Ew Ev Eu Et Es Er Eq Ep Eo
end Go.Proofs.YteldpmgepfaiiaaGreatDoor
