/- Walks. Conditions: in the statements. -/
import Derived.Test.YtohnaepcgnbaiaaGreatDoorJlRunj
import Derived.Test.YtohnaepcgnbaiaaGreatDoorRows
set_option linter.unusedSimpArgs false
set_option linter.unusedVariables false
namespace Go.Proofs.YtohnaepcgnbaiaaGreatDoor
theorem qi3:qi Tryz.prog 3=⟨.int .i64,1,8,true,[.int .i64 0]⟩:=by kernel_rfl
theorem qi4:qi Tryz.prog 4=⟨.bool,1,1,true,[.bool false]⟩:=by kernel_rfl
theorem qi9:qi Tryz.prog 9=⟨.str,1,16,true,[.str []]⟩:=by kernel_rfl
theorem qi24:qi Tryz.prog 24=⟨.ptr,1,8,true,[.raw (.pointer none)]⟩:=by kernel_rfl
theorem qi27:qi Tryz.prog 27=⟨.slice 9,1,24,true,[.lst [] .full]⟩:=by kernel_rfl
theorem qi28:qi Tryz.prog 28=⟨.slice 3,1,24,true,[.lst [] .full]⟩:=by kernel_rfl
theorem qi30:qi Tryz.prog 30=⟨.struct,3,56,true,[.lst [] .full,.lst [] .full,.int .i64 0]⟩:=by kernel_rfl
theorem PG:fok Tryz.prog 30=true:=by kernel_rfl
theorem JZ:qf Tryz.prog 30 0=some (0,1,false):=by kernel_rfl
theorem JN:qp Tryz.prog 30 0=some (0,1):=by kernel_rfl
theorem JY:qf Tryz.prog 30 1=some (1,1,false):=by kernel_rfl
theorem JM:qp Tryz.prog 30 1=some (1,1):=by kernel_rfl
theorem JX:qf Tryz.prog 30 2=some (2,1,false):=by kernel_rfl
theorem JL:qp Tryz.prog 30 2=some (2,1):=by kernel_rfl
theorem qi36:qi Tryz.prog 36=⟨.slice 28,1,24,true,[.lst [] .full]⟩:=by kernel_rfl
theorem qi43:qi Tryz.prog 43=⟨.array 2 3,2,16,true,[.int .i64 0,.int .i64 0]⟩:=by kernel_rfl
theorem RZ:fok Tryz.prog 43=true:=by kernel_rfl
theorem Rs:qp Tryz.prog 43 0=some (0,1):=by kernel_rfl
theorem Rr:qp Tryz.prog 43 1=some (1,1):=by kernel_rfl
theorem qi46:qi Tryz.prog 46=⟨.slice 47,1,24,true,[.lst [] .full]⟩:=by kernel_rfl
theorem qi47:qi Tryz.prog 47=⟨.array 3 3,3,24,true,[.int .i64 0,.int .i64 0,.int .i64 0]⟩:=by kernel_rfl
theorem PF:fok Tryz.prog 47=true:=by kernel_rfl
theorem ek47:ek Tryz.prog 47=some [.int .i64,.int .i64,.int .i64]:=by kernel_rfl
theorem JK:qp Tryz.prog 47 0=some (0,1):=by kernel_rfl
theorem JJ:qp Tryz.prog 47 1=some (1,1):=by kernel_rfl
theorem JH:qp Tryz.prog 47 2=some (2,1):=by kernel_rfl
theorem qi52:qi Tryz.prog 52=⟨.struct,2,24,true,[.str [],.int .i64 0]⟩:=by kernel_rfl
theorem PE:fok Tryz.prog 52=true:=by kernel_rfl
theorem JW:qf Tryz.prog 52 0=some (0,1,false):=by kernel_rfl
theorem JG:qp Tryz.prog 52 0=some (0,1):=by kernel_rfl
theorem JV:qf Tryz.prog 52 1=some (1,1,false):=by kernel_rfl
theorem JE:qp Tryz.prog 52 1=some (1,1):=by kernel_rfl
theorem qi53:qi Tryz.prog 53=⟨.slice 52,1,24,true,[.lst [] .full]⟩:=by kernel_rfl
theorem qi54:qi Tryz.prog 54=⟨.ptr,1,8,true,[.raw (.pointer none)]⟩:=by kernel_rfl
theorem qi57:qi Tryz.prog 57=⟨.ptr,1,8,true,[.raw (.pointer none)]⟩:=by kernel_rfl
theorem qi60:qi Tryz.prog 60=⟨.ptr,1,8,true,[.raw (.pointer none)]⟩:=by kernel_rfl
theorem qi63:qi Tryz.prog 63=⟨.ptr,1,8,true,[.raw (.pointer none)]⟩:=by kernel_rfl
theorem qi71:qi Tryz.prog 71=⟨.map 3 171,1,8,true,[.raw (.map none)]⟩:=by kernel_rfl
theorem qi73:qi Tryz.prog 73=⟨.struct,5,56,true,[.raw (.pointer none),.raw (.pointer none),.lst [] .full,.raw (.map none),.int .i64 0]⟩:=by kernel_rfl
theorem PD:fok Tryz.prog 73=true:=by kernel_rfl
theorem JU:qf Tryz.prog 73 0=some (0,1,false):=by kernel_rfl
theorem JD:qp Tryz.prog 73 0=some (0,1):=by kernel_rfl
theorem JR:qf Tryz.prog 73 1=some (1,1,false):=by kernel_rfl
theorem JC:qp Tryz.prog 73 1=some (1,1):=by kernel_rfl
theorem JQ:qf Tryz.prog 73 2=some (2,1,false):=by kernel_rfl
theorem JP:qf Tryz.prog 73 3=some (3,1,false):=by kernel_rfl
theorem JO:qf Tryz.prog 73 4=some (4,1,false):=by kernel_rfl
theorem qi83:qi Tryz.prog 83=⟨.map 3 4,1,8,true,[.raw (.map none)]⟩:=by kernel_rfl
theorem qi88:qi Tryz.prog 88=⟨.map 9 4,1,8,true,[.raw (.map none)]⟩:=by kernel_rfl
theorem qi98:qi Tryz.prog 98=⟨.ptr,1,8,true,[.raw (.pointer none)]⟩:=by kernel_rfl
theorem N4:qi Tryz.prog 100=⟨.slice 109,1,24,true,[.lst [] .full]⟩:=by kernel_rfl
theorem DZ:qf Tryz.prog 105 2=some (0,1,false):=by kernel_rfl
theorem N3:qi Tryz.prog 107=⟨.struct,8,96,true,[.int .i64 0,.int .i64 0,.lst [] .full,.lst [] .full,.raw (.pointer none),.int .i64 0,.int .i64 0,.int .i64 0]⟩:=by kernel_rfl
theorem LK:fok Tryz.prog 107=true:=by kernel_rfl
theorem DY:qf Tryz.prog 107 0=some (0,1,false):=by kernel_rfl
theorem Do:qp Tryz.prog 107 0=some (0,1):=by kernel_rfl
theorem DX:qf Tryz.prog 107 1=some (1,1,false):=by kernel_rfl
theorem Dn:qp Tryz.prog 107 1=some (1,1):=by kernel_rfl
theorem DW:qf Tryz.prog 107 2=some (2,1,false):=by kernel_rfl
theorem DV:qf Tryz.prog 107 3=some (3,1,false):=by kernel_rfl
theorem DU:qf Tryz.prog 107 4=some (4,1,false):=by kernel_rfl
theorem Dl:qp Tryz.prog 107 4=some (4,1):=by kernel_rfl
theorem DT:qf Tryz.prog 107 5=some (5,1,false):=by kernel_rfl
theorem Dj:qp Tryz.prog 107 5=some (5,1):=by kernel_rfl
theorem DS:qf Tryz.prog 107 6=some (6,1,true):=by kernel_rfl
theorem DQ:qf Tryz.prog 107 7=some (7,1,true):=by kernel_rfl
theorem N0:qi Tryz.prog 109=⟨.struct,5,40,true,[.bool false,.int .i64 0,.int .i64 0,.int .i64 0,.int .i64 0]⟩:=by kernel_rfl
theorem LJ:fok Tryz.prog 109=true:=by kernel_rfl
theorem DP:qf Tryz.prog 109 0=some (0,1,false):=by kernel_rfl
theorem Di:qp Tryz.prog 109 0=some (0,1):=by kernel_rfl
theorem DO:qf Tryz.prog 109 1=some (1,1,false):=by kernel_rfl
theorem Dh:qp Tryz.prog 109 1=some (1,1):=by kernel_rfl
theorem DN:qf Tryz.prog 109 2=some (2,1,false):=by kernel_rfl
theorem Dg:qp Tryz.prog 109 2=some (2,1):=by kernel_rfl
theorem DM:qf Tryz.prog 109 3=some (3,1,false):=by kernel_rfl
theorem Df:qp Tryz.prog 109 3=some (3,1):=by kernel_rfl
theorem DK:qf Tryz.prog 114 1=some (0,1,false):=by kernel_rfl
theorem DJ:qf Tryz.prog 120 1=some (0,1,true):=by kernel_rfl
theorem NZ:qi Tryz.prog 121=⟨.slice 209,1,24,true,[.lst [] .full]⟩:=by kernel_rfl
theorem NY:qi Tryz.prog 123=⟨.struct,6,56,true,[.raw (.pointer none),.int .u32 0,.int .i32 0,.int .u32 0,.lst [] .full,.int .i64 0]⟩:=by kernel_rfl
theorem LI:fok Tryz.prog 123=true:=by kernel_rfl
theorem DI:qf Tryz.prog 123 0=some (0,1,false):=by kernel_rfl
theorem De:qp Tryz.prog 123 0=some (0,1):=by kernel_rfl
theorem DH:qf Tryz.prog 123 1=some (1,3,true):=by kernel_rfl
theorem DG:qf Tryz.prog 123 2=some (4,1,false):=by kernel_rfl
theorem DF:qf Tryz.prog 123 3=some (5,1,false):=by kernel_rfl
theorem NX:qi Tryz.prog 126=⟨.struct,2,16,true,[.raw (.pointer none),.raw (.pointer none)]⟩:=by kernel_rfl
theorem LH:fok Tryz.prog 126=true:=by kernel_rfl
theorem DE:qf Tryz.prog 126 0=some (0,1,false):=by kernel_rfl
theorem Dd:qp Tryz.prog 126 0=some (0,1):=by kernel_rfl
theorem DD:qf Tryz.prog 126 1=some (1,1,false):=by kernel_rfl
theorem Dc:qp Tryz.prog 126 1=some (1,1):=by kernel_rfl
theorem NW:qi Tryz.prog 132=⟨.struct,3,56,true,[.raw (.pointer none),.lst [] .full,.lst [] .full]⟩:=by kernel_rfl
theorem LG:fok Tryz.prog 132=true:=by kernel_rfl
theorem DB:qf Tryz.prog 132 0=some (0,1,false):=by kernel_rfl
theorem Db:qp Tryz.prog 132 0=some (0,1):=by kernel_rfl
theorem DA:qf Tryz.prog 132 1=some (1,1,false):=by kernel_rfl
theorem Da:qp Tryz.prog 132 1=some (1,1):=by kernel_rfl
theorem Dz:qf Tryz.prog 132 2=some (2,1,false):=by kernel_rfl
theorem C9:qp Tryz.prog 132 2=some (2,1):=by kernel_rfl
theorem NV:qi Tryz.prog 134=⟨.slice 30,1,24,true,[.lst [] .full]⟩:=by kernel_rfl
theorem NU:qi Tryz.prog 146=⟨.map 3 3,1,8,true,[.raw (.map none)]⟩:=by kernel_rfl
theorem NT:qi Tryz.prog 148=⟨.slice 4,1,24,true,[.lst [] .full]⟩:=by kernel_rfl
theorem RV:qi Tryz.prog 155=⟨.func,1,8,true,[.raw .nilFunc]⟩:=by kernel_rfl
theorem RT:qi Tryz.prog 156=⟨.slice 155,1,24,true,[.lst [] .full]⟩:=by kernel_rfl
theorem NS:qi Tryz.prog 159=⟨.slice 215,1,24,true,[.lst [] .full]⟩:=by kernel_rfl
theorem NR:qi Tryz.prog 161=⟨.struct,3,40,true,[.lst [] .full,.int .i64 0,.int .i64 0]⟩:=by kernel_rfl
theorem LF:fok Tryz.prog 161=true:=by kernel_rfl
theorem Dy:qf Tryz.prog 161 0=some (0,1,false):=by kernel_rfl
theorem C8:qp Tryz.prog 161 0=some (0,1):=by kernel_rfl
theorem Dx:qf Tryz.prog 161 1=some (1,1,false):=by kernel_rfl
theorem Dw:qf Tryz.prog 161 2=some (2,1,false):=by kernel_rfl
theorem Az:qi Tryz.prog 169=⟨.int .u64,1,8,true,[.int .u64 0]⟩:=by kernel_rfl
theorem NQ:qi Tryz.prog 171=⟨.array 4 169,4,32,true,[.int .u64 0,.int .u64 0,.int .u64 0,.int .u64 0]⟩:=by kernel_rfl
theorem LE:fok Tryz.prog 171=true:=by kernel_rfl
theorem PH:ek Tryz.prog 171=some [.int .u64,.int .u64,.int .u64,.int .u64]:=by kernel_rfl
theorem NP:qi Tryz.prog 195=⟨.func,1,8,true,[.raw .nilFunc]⟩:=by kernel_rfl
theorem NO:qi Tryz.prog 197=⟨.func,1,8,true,[.raw .nilFunc]⟩:=by kernel_rfl
theorem NN:qi Tryz.prog 209=⟨.struct,5,40,true,[.bool false,.int .i64 0,.int .i64 0,.int .i64 0,.int .i64 0]⟩:=by kernel_rfl
theorem LD:fok Tryz.prog 209=true:=by kernel_rfl
theorem Dv:qf Tryz.prog 209 0=some (0,1,false):=by kernel_rfl
theorem C7:qp Tryz.prog 209 0=some (0,1):=by kernel_rfl
theorem Du:qf Tryz.prog 209 1=some (1,3,true):=by kernel_rfl
theorem C6:qp Tryz.prog 209 1=some (1,3):=by kernel_rfl
theorem Dt:qf Tryz.prog 209 2=some (4,1,false):=by kernel_rfl
theorem C5:qp Tryz.prog 209 2=some (4,1):=by kernel_rfl
theorem NM:qi Tryz.prog 215=⟨.struct,5,40,true,[.int .i64 0,.int .i64 0,.int .i64 0,.int .i64 0,.int .i64 0]⟩:=by kernel_rfl
theorem LC:fok Tryz.prog 215=true:=by kernel_rfl
theorem Ds:qf Tryz.prog 215 0=some (0,1,false):=by kernel_rfl
theorem C4:qp Tryz.prog 215 0=some (0,1):=by kernel_rfl
theorem Dr:qf Tryz.prog 215 1=some (1,3,true):=by kernel_rfl
theorem C3:qp Tryz.prog 215 1=some (1,3):=by kernel_rfl
theorem Dq:qf Tryz.prog 215 2=some (4,1,false):=by kernel_rfl
theorem C2:qp Tryz.prog 215 2=some (4,1):=by kernel_rfl
theorem yS:an Tryz.prog 7:=ai Tryz.func7 (by kernel_rfl) rfl
theorem Sd:an Tryz.prog 8:=ai Tryz.func8 (by kernel_rfl) rfl
theorem lW:an Tryz.prog 11:=ai Tryz.func11 (by kernel_rfl) rfl
theorem oZ:an Tryz.prog 12:=ai Tryz.func12 (by kernel_rfl) rfl
theorem xM:an Tryz.prog 13:=ai Tryz.func13 (by kernel_rfl) rfl
theorem GX:an Tryz.prog 14:=ai Tryz.func14 (by kernel_rfl) rfl
theorem xL:an Tryz.prog 15:=ai Tryz.func15 (by kernel_rfl) rfl
theorem xK:an Tryz.prog 19:=ai Tryz.func19 (by kernel_rfl) rfl
theorem Sg:an Tryz.prog 20:=ai Tryz.func20 (by kernel_rfl) rfl
theorem Sf:an Tryz.prog 21:=ai Tryz.func21 (by kernel_rfl) rfl
theorem Qq:an Tryz.prog 22:=ai Tryz.func22 (by kernel_rfl) rfl
theorem Qp:an Tryz.prog 23:=ai Tryz.func23 (by kernel_rfl) rfl
theorem Qo:an Tryz.prog 24:=ai Tryz.func24 (by kernel_rfl) rfl
theorem Qn:an Tryz.prog 25:=ai Tryz.func25 (by kernel_rfl) rfl
theorem Qm:an Tryz.prog 26:=ai Tryz.func26 (by kernel_rfl) rfl
theorem Ql:an Tryz.prog 27:=ai Tryz.func27 (by kernel_rfl) rfl
theorem GV:an Tryz.prog 28:=ai Tryz.func28 (by kernel_rfl) rfl
theorem oY:an Tryz.prog 29:=ai Tryz.func29 (by kernel_rfl) rfl
theorem kB:an Tryz.prog 30:=ai Tryz.func30 (by kernel_rfl) rfl
theorem tL:an Tryz.prog 31:=ai Tryz.func31 (by kernel_rfl) rfl
theorem xJ:an Tryz.prog 32:=ai Tryz.func32 (by kernel_rfl) rfl
theorem lV:an Tryz.prog 33:=ai Tryz.func33 (by kernel_rfl) rfl
theorem ft:an Tryz.prog 34:=ai Tryz.func34 (by kernel_rfl) rfl
theorem GU:an Tryz.prog 35:=ai Tryz.func35 (by kernel_rfl) rfl
theorem Qk:an Tryz.prog 36:=ai Tryz.func36 (by kernel_rfl) rfl
theorem xI:an Tryz.prog 37:=ai Tryz.func37 (by kernel_rfl) rfl
theorem Qj:an Tryz.prog 38:=ai Tryz.func38 (by kernel_rfl) rfl
theorem dK:an Tryz.prog 39:=ai Tryz.func39 (by kernel_rfl) rfl
theorem BI:an Tryz.prog 40:=ai Tryz.func40 (by kernel_rfl) rfl
theorem qH:an Tryz.prog 41:=ai Tryz.func41 (by kernel_rfl) rfl
theorem Qi:an Tryz.prog 42:=ai Tryz.func42 (by kernel_rfl) rfl
theorem Qh:an Tryz.prog 43:=ai Tryz.func43 (by kernel_rfl) rfl
theorem Qg:an Tryz.prog 44:=ai Tryz.func44 (by kernel_rfl) rfl
theorem BH:an Tryz.prog 45:=ai Tryz.func45 (by kernel_rfl) rfl
theorem GT:an Tryz.prog 46:=ai Tryz.func46 (by kernel_rfl) rfl
theorem xH:an Tryz.prog 49:=ai Tryz.func49 (by kernel_rfl) rfl
theorem GP:an Tryz.prog 51:=ai Tryz.func51 (by kernel_rfl) rfl
theorem Qc:an Tryz.prog 52:=ai Tryz.func52 (by kernel_rfl) rfl
theorem Rn:an Tryz.prog 53:=ai Tryz.func53 (by kernel_rfl) rfl
theorem Se:an Tryz.prog 54:=ai Tryz.func54 (by kernel_rfl) rfl
theorem Qb:an Tryz.prog 55:=ai Tryz.func55 (by kernel_rfl) rfl
theorem BG:an Tryz.prog 56:=ai Tryz.func56 (by kernel_rfl) rfl
theorem iv:an Tryz.prog 57:=ai Tryz.func57 (by kernel_rfl) rfl
theorem xG:an Tryz.prog 58:=ai Tryz.func58 (by kernel_rfl) rfl
theorem BE:an Tryz.prog 59:=ai Tryz.func59 (by kernel_rfl) rfl
theorem oX:an Tryz.prog 60:=ai Tryz.func60 (by kernel_rfl) rfl
theorem GO:an Tryz.prog 61:=ai Tryz.func61 (by kernel_rfl) rfl
theorem GN:an Tryz.prog 62:=ai Tryz.func62 (by kernel_rfl) rfl
theorem Qa:an Tryz.prog 63:=ai Tryz.func63 (by kernel_rfl) rfl
theorem P9:an Tryz.prog 64:=ai Tryz.func64 (by kernel_rfl) rfl
theorem P8:an Tryz.prog 65:=ai Tryz.func65 (by kernel_rfl) rfl
theorem GM:an Tryz.prog 66:=ai Tryz.func66 (by kernel_rfl) rfl
theorem P7:an Tryz.prog 67:=ai Tryz.func67 (by kernel_rfl) rfl
theorem P6:an Tryz.prog 68:=ai Tryz.func68 (by kernel_rfl) rfl
theorem P5:an Tryz.prog 69:=ai Tryz.func69 (by kernel_rfl) rfl
theorem GL:an Tryz.prog 70:=ai Tryz.func70 (by kernel_rfl) rfl
theorem P4:an Tryz.prog 71:=ai Tryz.func71 (by kernel_rfl) rfl
theorem tK:an Tryz.prog 72:=ai Tryz.func72 (by kernel_rfl) rfl
theorem GK:an Tryz.prog 73:=ai Tryz.func73 (by kernel_rfl) rfl
theorem BD:an Tryz.prog 74:=ai Tryz.func74 (by kernel_rfl) rfl
theorem BC:an Tryz.prog 75:=ai Tryz.func75 (by kernel_rfl) rfl
theorem GJ:an Tryz.prog 76:=ai Tryz.func76 (by kernel_rfl) rfl
theorem xF:an Tryz.prog 77:=ai Tryz.func77 (by kernel_rfl) rfl
theorem P3:an Tryz.prog 78:=ai Tryz.func78 (by kernel_rfl) rfl
theorem oW:an Tryz.prog 79:=ai Tryz.func79 (by kernel_rfl) rfl
theorem GI:an Tryz.prog 81:=ai Tryz.func81 (by kernel_rfl) rfl
theorem BB:an Tryz.prog 82:=ai Tryz.func82 (by kernel_rfl) rfl
theorem Sc:an Tryz.prog 83:=ai Tryz.func83 (by kernel_rfl) rfl
theorem Sb:an Tryz.prog 84:=ai Tryz.func84 (by kernel_rfl) rfl
theorem Sa:an Tryz.prog 85:=ai Tryz.func85 (by kernel_rfl) rfl
theorem R9:an Tryz.prog 86:=ai Tryz.func86 (by kernel_rfl) rfl
theorem PY:an Tryz.prog 87:=ai Tryz.func87 (by kernel_rfl) rfl
theorem R8:an Tryz.prog 88:=ai Tryz.func88 (by kernel_rfl) rfl
theorem GH:an Tryz.prog 89:=ai Tryz.func89 (by kernel_rfl) rfl
theorem R7:an Tryz.prog 90:=ai Tryz.func90 (by kernel_rfl) rfl
theorem R6:an Tryz.prog 91:=ai Tryz.func91 (by kernel_rfl) rfl
theorem oV:an Tryz.prog 92:=ai Tryz.func92 (by kernel_rfl) rfl
theorem kA:an Tryz.prog 93:=ai Tryz.func93 (by kernel_rfl) rfl
theorem GE:an Tryz.prog 94:=ai Tryz.func94 (by kernel_rfl) rfl
theorem PV:an Tryz.prog 95:=ai Tryz.func95 (by kernel_rfl) rfl
theorem GD:an Tryz.prog 96:=ai Tryz.func96 (by kernel_rfl) rfl
theorem GC:an Tryz.prog 97:=ai Tryz.func97 (by kernel_rfl) rfl
theorem ey:an Tryz.prog 98:=ai Tryz.func98 (by kernel_rfl) rfl
theorem xE:an Tryz.prog 99:=ai Tryz.func99 (by kernel_rfl) rfl
theorem rG:an Tryz.prog 100:=ai Tryz.func100 (by kernel_rfl) rfl
theorem Ms:an Tryz.prog 101:=ai Tryz.func101 (by kernel_rfl) rfl
theorem Mr:an Tryz.prog 102:=ai Tryz.func102 (by kernel_rfl) rfl
theorem Mq:an Tryz.prog 103:=ai Tryz.func103 (by kernel_rfl) rfl
theorem Mp:an Tryz.prog 107:=ai Tryz.func107 (by kernel_rfl) rfl
theorem vJ:an Tryz.prog 108:=ai Tryz.func108 (by kernel_rfl) rfl
theorem Mo:an Tryz.prog 109:=ai Tryz.func109 (by kernel_rfl) rfl
theorem BP:an Tryz.prog 110:=ai Tryz.func110 (by kernel_rfl) rfl
theorem lw:an Tryz.prog 111:=ai Tryz.func111 (by kernel_rfl) rfl
theorem BO:an Tryz.prog 112:=ai Tryz.func112 (by kernel_rfl) rfl
theorem Mn:an Tryz.prog 113:=ai Tryz.func113 (by kernel_rfl) rfl
theorem Mm:an Tryz.prog 114:=ai Tryz.func114 (by kernel_rfl) rfl
theorem rM:an Tryz.prog 116:=ai Tryz.func116 (by kernel_rfl) rfl
theorem vI:an Tryz.prog 117:=ai Tryz.func117 (by kernel_rfl) rfl
theorem o0:an Tryz.prog 118:=ai Tryz.func118 (by kernel_rfl) rfl
theorem vH:an Tryz.prog 119:=ai Tryz.func119 (by kernel_rfl) rfl
theorem Ml:an Tryz.prog 121:=ai Tryz.func121 (by kernel_rfl) rfl
theorem Mk:an Tryz.prog 122:=ai Tryz.func122 (by kernel_rfl) rfl
theorem rF:an Tryz.prog 123:=ai Tryz.func123 (by kernel_rfl) rfl
theorem vG:an Tryz.prog 124:=ai Tryz.func124 (by kernel_rfl) rfl
theorem Mj:an Tryz.prog 125:=ai Tryz.func125 (by kernel_rfl) rfl
theorem vF:an Tryz.prog 126:=ai Tryz.func126 (by kernel_rfl) rfl
theorem vE:an Tryz.prog 127:=ai Tryz.func127 (by kernel_rfl) rfl
theorem BN:an Tryz.prog 128:=ai Tryz.func128 (by kernel_rfl) rfl
theorem vD:an Tryz.prog 129:=ai Tryz.func129 (by kernel_rfl) rfl
theorem Mi:an Tryz.prog 141:=ai Tryz.func141 (by kernel_rfl) rfl
theorem Mh:an Tryz.prog 142:=ai Tryz.func142 (by kernel_rfl) rfl
theorem vC:an Tryz.prog 143:=ai Tryz.func143 (by kernel_rfl) rfl
theorem vB:an Tryz.prog 144:=ai Tryz.func144 (by kernel_rfl) rfl
theorem rE:an Tryz.prog 145:=ai Tryz.func145 (by kernel_rfl) rfl
theorem Mg:an Tryz.prog 146:=ai Tryz.func146 (by kernel_rfl) rfl
theorem QR:an Tryz.prog 157:=ai Tryz.func157 (by kernel_rfl) rfl
theorem Mf:an Tryz.prog 159:=ai Tryz.func159 (by kernel_rfl) rfl
theorem BM:an Tryz.prog 164:=ai Tryz.func164 (by kernel_rfl) rfl
theorem Me:an Tryz.prog 165:=ai Tryz.func165 (by kernel_rfl) rfl
theorem Md:an Tryz.prog 166:=ai Tryz.func166 (by kernel_rfl) rfl
theorem lu:an Tryz.prog 167:=ai Tryz.func167 (by kernel_rfl) rfl
theorem BK:an Tryz.prog 173:=ai Tryz.func173 (by kernel_rfl) rfl
theorem Mc:an Tryz.prog 175:=ai Tryz.func175 (by kernel_rfl) rfl
theorem vA:an Tryz.prog 186:=ai Tryz.func186 (by kernel_rfl) rfl
theorem Mb:an Tryz.prog 187:=ai Tryz.func187 (by kernel_rfl) rfl
theorem BJ:an Tryz.prog 189:=ai Tryz.func189 (by kernel_rfl) rfl
theorem Ma:an Tryz.prog 190:=ai Tryz.func190 (by kernel_rfl) rfl
theorem res0:Tryz.f0.results.toList=[]:=rfl
theorem res1:Tryz.f1.results.toList=[]:=rfl
theorem res2:Tryz.f2.results.toList=[]:=rfl
theorem res3:Tryz.f3.results.toList=[.tmp 6]:=rfl
theorem CY:Tryz.f4.results.toList=[.tmp 6]:=rfl
theorem CX:Tryz.f5.results.toList=[.tmp 6]:=rfl
theorem Rq:Tryz.f6.results.toList=[.tmp 6]:=rfl
theorem ND:Tryz.f7.results.toList=[.tmp 0]:=rfl
theorem NA:Tryz.f8.results.toList=[.tmp 2,.tmp 3]:=rfl
theorem Ns:Tryz.f9.results.toList=[.cell 6 30,.cell 7 30,.tmp 8]:=rfl
theorem sH:Tryz.f10.results.toList=[.cell 8 30,.tmp 9]:=rfl
theorem Gy:Tryz.f11.results.toList=[.tmp 6,.tmp 7]:=rfl
theorem wW:Tryz.f12.results.toList=[.tmp 4]:=rfl
theorem Gx:Tryz.f13.results.toList=[.cell 6 30,.tmp 7]:=rfl
theorem Gw:Tryz.f14.results.toList=[.cell 6 30,.tmp 7]:=rfl
theorem wV:Tryz.f15.results.toList=[.tmp 4]:=rfl
theorem Gv:Tryz.f16.results.toList=[.cell 6 30,.tmp 7]:=rfl
theorem Gu:Tryz.f17.results.toList=[.cell 6 30,.tmp 7]:=rfl
theorem Gt:Tryz.f18.results.toList=[.cell 6 30,.tmp 7]:=rfl
theorem Gs:Tryz.f19.results.toList=[.cell 8 30,.tmp 9]:=rfl
theorem NK:Tryz.f20.results.toList=[.cell 8 30,.tmp 9]:=rfl
theorem NJ:Tryz.f21.results.toList=[.cell 8 30,.tmp 9]:=rfl
theorem Gr:Tryz.f22.results.toList=[.tmp 4,.tmp 5]:=rfl
theorem Gq:Tryz.f23.results.toList=[.tmp 2,.tmp 3]:=rfl
theorem Gp:Tryz.f24.results.toList=[.tmp 2,.tmp 3]:=rfl
theorem sG:Tryz.f25.results.toList=[.tmp 6,.tmp 7]:=rfl
theorem Gn:Tryz.f26.results.toList=[.tmp 2,.tmp 3]:=rfl
theorem Gm:Tryz.f27.results.toList=[.tmp 2]:=rfl
theorem Gl:Tryz.f28.results.toList=[.tmp 2]:=rfl
theorem Gk:Tryz.f29.results.toList=[.tmp 4]:=rfl
theorem Ab:Tryz.f30.results.toList=[.tmp 4]:=rfl
theorem Gj:Tryz.f31.results.toList=[.tmp 4]:=rfl
theorem Aa:Tryz.f32.results.toList=[.tmp 8,.tmp 9]:=rfl
theorem NI:Tryz.f33.results.toList=[.tmp 2]:=rfl
theorem NH:Tryz.f34.results.toList=[.tmp 2]:=rfl
theorem Gi:Tryz.f35.results.toList=[.cell 4 30,.tmp 5]:=rfl
theorem z8:Tryz.f36.results.toList=[.tmp 8,.tmp 9]:=rfl
theorem wU:Tryz.f37.results.toList=[.tmp 4]:=rfl
theorem Gg:Tryz.f38.results.toList=[.tmp 6,.tmp 7]:=rfl
theorem Gf:Tryz.f39.results.toList=[.tmp 2]:=rfl
theorem Ge:Tryz.f40.results.toList=[.tmp 6,.tmp 7]:=rfl
theorem z7:Tryz.f41.results.toList=[.tmp 4,.tmp 5]:=rfl
theorem z6:Tryz.f42.results.toList=[.tmp 4]:=rfl
theorem Gd:Tryz.f43.results.toList=[.tmp 3]:=rfl
theorem Gc:Tryz.f44.results.toList=[.tmp 6,.tmp 7]:=rfl
theorem wT:Tryz.f45.results.toList=[.tmp 4]:=rfl
theorem Gb:Tryz.f46.results.toList=[.tmp 2]:=rfl
theorem Ga:Tryz.f47.results.toList=[.cell 8 30,.tmp 9]:=rfl
theorem F9:Tryz.f48.results.toList=[.tmp 5,.tmp 6]:=rfl
theorem F8:Tryz.f49.results.toList=[.tmp 6,.tmp 7]:=rfl
theorem F7:Tryz.f50.results.toList=[.tmp 5,.tmp 6]:=rfl
theorem F6:Tryz.f51.results.toList=[.tmp 6,.tmp 7]:=rfl
theorem F5:Tryz.f52.results.toList=[.tmp 6,.tmp 7]:=rfl
theorem NG:Tryz.f53.results.toList=[.cell 8 30,.tmp 9]:=rfl
theorem NF:Tryz.f54.results.toList=[.tmp 6,.tmp 7]:=rfl
theorem F4:Tryz.f55.results.toList=[.tmp 0]:=rfl
theorem F3:Tryz.f56.results.toList=[.tmp 2]:=rfl
theorem FZ:Tryz.f57.results.toList=[.tmp 2]:=rfl
theorem wS:Tryz.f58.results.toList=[.tmp 2]:=rfl
theorem wR:Tryz.f59.results.toList=[.tmp 2]:=rfl
theorem FY:Tryz.f60.results.toList=[.tmp 2]:=rfl
theorem nK:Tryz.f61.results.toList=[.tmp 4,.tmp 5]:=rfl
theorem NE:Tryz.f62.results.toList=[.tmp 2]:=rfl
theorem FX:Tryz.f63.results.toList=[.tmp 2]:=rfl
theorem zZ:Tryz.f64.results.toList=[.tmp 6]:=rfl
theorem zY:Tryz.f65.results.toList=[.tmp 4]:=rfl
theorem wQ:Tryz.f66.results.toList=[.tmp 4]:=rfl
theorem FW:Tryz.f67.results.toList=[.tmp 8,.tmp 9]:=rfl
theorem FV:Tryz.f68.results.toList=[.tmp 8,.tmp 9]:=rfl
theorem zX:Tryz.f69.results.toList=[.tmp 8,.tmp 9]:=rfl
theorem NC:Tryz.f70.results.toList=[]:=rfl
theorem NB:Tryz.f71.results.toList=[.tmp 4]:=rfl
theorem FU:Tryz.f72.results.toList=[.tmp 8,.tmp 9]:=rfl
theorem FT:Tryz.f73.results.toList=[.tmp 4]:=rfl
theorem sF:Tryz.f74.results.toList=[.tmp 4]:=rfl
theorem FS:Tryz.f75.results.toList=[.tmp 6]:=rfl
theorem FQ:Tryz.f76.results.toList=[.tmp 2]:=rfl
theorem wP:Tryz.f77.results.toList=[.tmp 8,.tmp 9]:=rfl
theorem zW:Tryz.f78.results.toList=[.tmp 8,.tmp 9]:=rfl
theorem wO:Tryz.f79.results.toList=[.tmp 8,.tmp 9]:=rfl
theorem FP:Tryz.f80.results.toList=[.tmp 6,.tmp 7]:=rfl
theorem FO:Tryz.f81.results.toList=[.tmp 4,.tmp 5]:=rfl
theorem Nz:Tryz.f82.results.toList=[]:=rfl
theorem Ny:Tryz.f83.results.toList=[.tmp 8,.tmp 9]:=rfl
theorem Nw:Tryz.f84.results.toList=[.tmp 6]:=rfl
theorem Nv:Tryz.f85.results.toList=[.tmp 6]:=rfl
theorem Nu:Tryz.f86.results.toList=[.tmp 2,.tmp 3]:=rfl
theorem zV:Tryz.f87.results.toList=[.tmp 8,.tmp 9]:=rfl
theorem Nt:Tryz.f88.results.toList=[.tmp 5,.tmp 6]:=rfl
theorem FN:Tryz.f89.results.toList=[.tmp 6,.tmp 7]:=rfl
theorem Nr:Tryz.f90.results.toList=[.tmp 6,.tmp 7]:=rfl
theorem Nq:Tryz.f91.results.toList=[.tmp 4,.tmp 5]:=rfl
theorem FM:Tryz.f92.results.toList=[.tmp 2]:=rfl
theorem lO:Tryz.f93.results.toList=[.tmp 2,.tmp 3,.tmp 4]:=rfl
theorem Np:Tryz.f94.results.toList=[.tmp 4]:=rfl
theorem zU:Tryz.f95.results.toList=[.tmp 4]:=rfl
theorem FL:Tryz.f96.results.toList=[.tmp 3]:=rfl
theorem No:Tryz.f97.results.toList=[]:=rfl
theorem FK:Tryz.f98.results.toList=[.tmp 4,.tmp 5,.tmp 6,.tmp 7]:=rfl
theorem FJ:Tryz.f99.results.toList=[.tmp 2]:=rfl
theorem qY:Tryz.f100.results.toList=[.cell 4 171]:=rfl
theorem uI:Tryz.f101.results.toList=[.tmp 8,.tmp 9]:=rfl
theorem Au:Tryz.f102.results.toList=[.tmp 6,.tmp 7]:=rfl
theorem At:Tryz.f103.results.toList=[.tmp 6,.tmp 7]:=rfl
theorem Jy:Tryz.f104.results.toList=[]:=rfl
theorem Jw:Tryz.f105.results.toList=[.tmp 2]:=rfl
theorem Jv:Tryz.f106.results.toList=[.tmp 4]:=rfl
theorem As:Tryz.f107.results.toList=[.tmp 4]:=rfl
theorem jj:Tryz.f108.results.toList=[.tmp 8,.tmp 9]:=rfl
theorem Ar:Tryz.f109.results.toList=[.tmp 4]:=rfl
theorem uH:Tryz.f110.results.toList=[.tmp 3]:=rfl
theorem Aq:Tryz.f111.results.toList=[.tmp 4]:=rfl
theorem uG:Tryz.f112.results.toList=[.tmp 4,.tmp 5]:=rfl
theorem Ap:Tryz.f113.results.toList=[.tmp 6]:=rfl
theorem Ao:Tryz.f114.results.toList=[.tmp 4]:=rfl
theorem Ju:Tryz.f115.results.toList=[]:=rfl
theorem Jt:Tryz.f116.results.toList=[.tmp 10,.tmp 11]:=rfl
theorem An:Tryz.f117.results.toList=[.tmp 6,.tmp 7]:=rfl
theorem qX:Tryz.f118.results.toList=[.tmp 2,.tmp 3]:=rfl
theorem qW:Tryz.f119.results.toList=[.tmp 2]:=rfl
theorem Js:Tryz.f120.results.toList=[.tmp 8]:=rfl
theorem Am:Tryz.f121.results.toList=[.tmp 2]:=rfl
theorem Al:Tryz.f122.results.toList=[.tmp 6,.tmp 7]:=rfl
theorem uE:Tryz.f123.results.toList=[.tmp 5]:=rfl
theorem qV:Tryz.f124.results.toList=[.tmp 6]:=rfl
theorem uD:Tryz.f125.results.toList=[.tmp 4]:=rfl
theorem nN:Tryz.f126.results.toList=[.tmp 4]:=rfl
theorem uC:Tryz.f127.results.toList=[.tmp 2]:=rfl
theorem Ak:Tryz.f128.results.toList=[.tmp 4]:=rfl
theorem nL:Tryz.f129.results.toList=[]:=rfl
theorem Jr:Tryz.f130.results.toList=[]:=rfl
theorem Jq:Tryz.f131.results.toList=[]:=rfl
theorem Jp:Tryz.f132.results.toList=[]:=rfl
theorem Jo:Tryz.f133.results.toList=[.tmp 8,.tmp 9]:=rfl
theorem Jn:Tryz.f134.results.toList=[]:=rfl
theorem Jm:Tryz.f135.results.toList=[.tmp 8]:=rfl
theorem Jl:Tryz.f136.results.toList=[.tmp 10]:=rfl
theorem Jk:Tryz.f137.results.toList=[.tmp 10,.tmp 11]:=rfl
theorem Jj:Tryz.f138.results.toList=[.tmp 2]:=rfl
theorem Ji:Tryz.f139.results.toList=[.tmp 2]:=rfl
theorem Jh:Tryz.f140.results.toList=[.tmp 2]:=rfl
theorem uA:Tryz.f141.results.toList=[]:=rfl
theorem Aj:Tryz.f142.results.toList=[.tmp 4]:=rfl
theorem uz:Tryz.f143.results.toList=[.tmp 6,.tmp 7]:=rfl
theorem Ai:Tryz.f144.results.toList=[.tmp 2]:=rfl
theorem uy:Tryz.f145.results.toList=[.tmp 4,.tmp 5]:=rfl
theorem ux:Tryz.f146.results.toList=[]:=rfl
theorem Jg:Tryz.f147.results.toList=[]:=rfl
theorem Jf:Tryz.f148.results.toList=[]:=rfl
theorem Je:Tryz.f149.results.toList=[]:=rfl
theorem Jd:Tryz.f150.results.toList=[]:=rfl
theorem Jc:Tryz.f151.results.toList=[.tmp 6,.tmp 7]:=rfl
theorem Jb:Tryz.f152.results.toList=[]:=rfl
theorem Ja:Tryz.f153.results.toList=[.tmp 6]:=rfl
theorem I9:Tryz.f154.results.toList=[.tmp 4]:=rfl
theorem I8:Tryz.f155.results.toList=[.tmp 8]:=rfl
theorem I7:Tryz.f156.results.toList=[.tmp 8,.tmp 9]:=rfl
theorem I6:Tryz.f157.results.toList=[.tmp 6,.tmp 7]:=rfl
theorem I5:Tryz.f158.results.toList=[.tmp 2]:=rfl
theorem I4:Tryz.f159.results.toList=[.tmp 4]:=rfl
theorem I3:Tryz.f160.results.toList=[.tmp 4]:=rfl
theorem I1:Tryz.f161.results.toList=[.tmp 4]:=rfl
theorem IZ:Tryz.f162.results.toList=[.tmp 4]:=rfl
theorem IY:Tryz.f163.results.toList=[]:=rfl
theorem IX:Tryz.f164.results.toList=[.tmp 2]:=rfl
theorem Ah:Tryz.f165.results.toList=[.tmp 2]:=rfl
theorem Ag:Tryz.f166.results.toList=[.tmp 4,.tmp 5]:=rfl
theorem uw:Tryz.f167.results.toList=[.tmp 2]:=rfl
theorem IW:Tryz.f168.results.toList=[]:=rfl
theorem IV:Tryz.f169.results.toList=[.tmp 2]:=rfl
theorem IU:Tryz.f170.results.toList=[.tmp 2]:=rfl
theorem IT:Tryz.f171.results.toList=[.tmp 8]:=rfl
theorem IS:Tryz.f172.results.toList=[.tmp 12]:=rfl
theorem uv:Tryz.f173.results.toList=[]:=rfl
theorem Af:Tryz.f174.results.toList=[]:=rfl
theorem Ae:Tryz.f175.results.toList=[.tmp 4]:=rfl
theorem IR:Tryz.f176.results.toList=[]:=rfl
theorem IQ:Tryz.f177.results.toList=[.tmp 6]:=rfl
theorem IP:Tryz.f178.results.toList=[.tmp 10]:=rfl
theorem IO:Tryz.f179.results.toList=[.tmp 6]:=rfl
theorem IM:Tryz.f180.results.toList=[.tmp 2]:=rfl
theorem IL:Tryz.f181.results.toList=[.tmp 2,.tmp 3]:=rfl
theorem IK:Tryz.f182.results.toList=[]:=rfl
theorem IJ:Tryz.f183.results.toList=[.tmp 4]:=rfl
theorem IG:Tryz.f184.results.toList=[.tmp 2]:=rfl
theorem IF:Tryz.f185.results.toList=[]:=rfl
theorem qU:Tryz.f186.results.toList=[]:=rfl
theorem Ad:Tryz.f187.results.toList=[.tmp 2]:=rfl
theorem IE:Tryz.f188.results.toList=[.tmp 10,.tmp 11]:=rfl
theorem Ac:Tryz.f189.results.toList=[.tmp 2]:=rfl
theorem ID:Tryz.f190.results.toList=[]:=rfl
theorem IC:Tryz.f191.results.toList=[.tmp 8,.tmp 9]:=rfl
theorem IB:Tryz.f192.results.toList=[.tmp 2,.tmp 3]:=rfl
theorem IA:Tryz.f193.results.toList=[.tmp 4]:=rfl
theorem Iz:Tryz.f194.results.toList=[]:=rfl
theorem Iy:Tryz.f195.results.toList=[.tmp 2]:=rfl
theorem Ix:Tryz.f196.results.toList=[.tmp 4]:=rfl
theorem Iw:Tryz.f197.results.toList=[.tmp 4]:=rfl
theorem Iv:Tryz.f198.results.toList=[]:=rfl
theorem Iu:Tryz.f199.results.toList=[]:=rfl
theorem It:Tryz.f200.results.toList=[]:=rfl
theorem Ir:Tryz.f201.results.toList=[]:=rfl
theorem Iq:Tryz.f202.results.toList=[]:=rfl
theorem Ip:Tryz.f203.results.toList=[]:=rfl
theorem Io:Tryz.f204.results.toList=[.tmp 2,.tmp 3]:=rfl
theorem Im:Tryz.f205.results.toList=[]:=rfl
theorem Il:Tryz.f206.results.toList=[]:=rfl
theorem Ik:Tryz.f207.results.toList=[]:=rfl
theorem Ij:Tryz.f208.results.toList=[.tmp 2]:=rfl
theorem Ii:Tryz.f209.results.toList=[]:=rfl
theorem Ih:Tryz.f210.results.toList=[]:=rfl
theorem Ig:Tryz.f211.results.toList=[]:=rfl
theorem If:Tryz.f212.results.toList=[]:=rfl
theorem Ie:Tryz.f213.results.toList=[]:=rfl
theorem Id:Tryz.f214.results.toList=[]:=rfl
theorem Ic:Tryz.f215.results.toList=[]:=rfl
theorem Ib:Tryz.f216.results.toList=[]:=rfl
theorem Ia:Tryz.f217.results.toList=[]:=rfl
theorem H8:Tryz.f218.results.toList=[]:=rfl
theorem H6:Tryz.f219.results.toList=[]:=rfl
theorem H5:Tryz.f220.results.toList=[]:=rfl
theorem H0:Tryz.f221.results.toList=[]:=rfl
theorem Hz:Tryz.f222.results.toList=[]:=rfl
theorem Hy:Tryz.f223.results.toList=[]:=rfl
theorem Hx:Tryz.f224.results.toList=[]:=rfl
theorem Hw:Tryz.f225.results.toList=[]:=rfl
theorem Hv:Tryz.f226.results.toList=[]:=rfl
theorem Hu:Tryz.f227.results.toList=[]:=rfl
theorem Ht:Tryz.f228.results.toList=[]:=rfl
theorem Hs:Tryz.f229.results.toList=[]:=rfl
theorem Hr:Tryz.f230.results.toList=[]:=rfl
theorem Hq:Tryz.f231.results.toList=[]:=rfl
theorem Hp:Tryz.f232.results.toList=[]:=rfl
theorem Ho:Tryz.f233.results.toList=[]:=rfl
theorem Hn:Tryz.f234.results.toList=[]:=rfl
theorem Hm:Tryz.f235.results.toList=[]:=rfl
theorem Hl:Tryz.f236.results.toList=[]:=rfl
theorem Hk:Tryz.f237.results.toList=[]:=rfl
theorem Hj:Tryz.f238.results.toList=[]:=rfl
theorem Hi:Tryz.f239.results.toList=[]:=rfl
theorem Hh:Tryz.f240.results.toList=[]:=rfl
theorem Hg:Tryz.f241.results.toList=[]:=rfl
theorem Hf:Tryz.f242.results.toList=[]:=rfl
theorem He:Tryz.f243.results.toList=[]:=rfl
theorem Hd:Tryz.f244.results.toList=[]:=rfl
attribute [go_sem] qi3 qi4 qi9 qi24 qi27 qi28 qi30 PG JZ JN JY JM JX JL qi36 qi43 RZ Rs Rr qi46 qi47 PF ek47 JK JJ JH qi52 PE JW JG JV JE qi53 qi54 qi57 qi60 qi63 qi71 qi73 PD JU JD JR JC JQ JP JO qi83 qi88 qi98 N4 DZ N3 LK DY Do DX Dn DW DV DU Dl DT Dj DS DQ N0 LJ DP Di DO Dh DN Dg DM Df DK DJ NZ NY LI DI De DH DG DF NX LH DE Dd DD Dc NW LG DB Db DA Da Dz C9 NV NU NT RV RT NS NR LF Dy C8 Dx Dw Az NQ LE PH NP NO NN LD Dv C7 Du C6 Dt C5 NM LC Ds C4 Dr C3 Dq C2 res0 res1 res2 res3 CY CX Rq ND NA Ns sH Gy wW Gx Gw wV Gv Gu Gt Gs NK NJ Gr Gq Gp sG Gn Gm Gl Gk Ab Gj Aa NI NH Gi z8 wU Gg Gf Ge z7 z6 Gd Gc wT Gb Ga F9 F8 F7 F6 F5 NG NF F4 F3 FZ wS wR FY nK NE FX zZ zY wQ FW FV zX NC NB FU FT sF FS FQ wP zW wO FP FO Nz Ny Nw Nv Nu zV Nt FN Nr Nq FM lO Np zU FL No FK FJ qY uI Au At Jy Jw Jv As jj Ar uH Aq uG Ap Ao Ju Jt An qX qW Js Am Al uE qV uD nN uC Ak nL Jr Jq Jp Jo Jn Jm Jl Jk Jj Ji Jh uA Aj uz Ai uy ux Jg Jf Je Jd Jc Jb Ja I9 I8 I7 I6 I5 I4 I3 I1 IZ IY IX Ah Ag uw IW IV IU IT IS uv Af Ae IR IQ IP IO IM IL IK IJ IG IF qU Ad IE Ac ID IC IB IA Iz Iy Ix Iw Iv Iu It Ir Iq Ip Io Im Il Ik Ij Ii Ih Ig If Ie Id Ic Ib Ia H8 H6 H5 H0 Hz Hy Hx Hw Hv Hu Ht Hs Hr Hq Hp Ho Hn Hm Hl Hk Hj Hi Hh Hg Hf He Hd
end Go.Proofs.YtohnaepcgnbaiaaGreatDoor
