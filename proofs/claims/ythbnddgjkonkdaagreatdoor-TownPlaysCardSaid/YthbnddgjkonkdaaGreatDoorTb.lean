/- A part of the proof. -/
import Derived.Test.YthbnddgjkonkdaaGreatDoorProg
import Derived.Test.YthbnddgjkonkdaaGreatDoorFwB
import Derived.KernelRfl
namespace Go.Proofs.YthbnddgjkonkdaaGreatDoor
open Go.TR
@[reducible] def k3:TI:=⟨(.int .i64),1,8,[(Value.int IntKind.i64 0)],false⟩
@[reducible] def k9:TI:=⟨.string,1,16,[(Value.string { data:=#[] })],false⟩
@[reducible] def ZQ:TI:=⟨(.struct [(24,0),(3,2),(3,3),(2,4),(25,5),(26,6)]),7,104,[(Value.int IntKind.i64 0),(Value.slice none 0 0),(Value.int IntKind.i64 0),(Value.int IntKind.i64 0),(Value.int IntKind.i64 0),(Value.slice none 0 0),(Value.slice none 0 0)],false⟩
@[reducible] def Z4:TI:=⟨(.int .u64),1,8,[(Value.int IntKind.u64 0)],false⟩
@[reducible] def k2:TI:=⟨(.int .i64),1,8,[(Value.int IntKind.i64 0)],false⟩
@[reducible] def ZB:TI:=⟨(.struct [(2,0),(33,1),(33,2),(2,3)]),4,32,[(Value.int IntKind.i64 0),(Value.int IntKind.u64 0),(Value.int IntKind.u64 0),(Value.int IntKind.i64 0)],true⟩
@[reducible] def ZR:TI:=⟨(.slice 122),1,24,[(Value.slice none 0 0)],false⟩
@[reducible] def ZP:TI:=⟨(.slice 9),1,24,[(Value.slice none 0 0)],false⟩
@[reducible] def Zx:TI:=⟨(.struct [(9,0),(33,1),(41,2),(54,6),(3,7)]),8,88,[(Value.string { data:=#[] }),(Value.int IntKind.u64 0),(Value.int IntKind.i64 0),(Value.int IntKind.u64 0),(Value.int IntKind.u64 0),(Value.int IntKind.i64 0),(Value.slice none 0 0),(Value.int IntKind.i64 0)],false⟩
@[reducible] def TG:TI:=⟨(.struct [(3,0),(3,1),(3,2),(3,3),(2,4),(3,5)]),6,48,[(Value.int IntKind.i64 0),(Value.int IntKind.i64 0),(Value.int IntKind.i64 0),(Value.int IntKind.i64 0),(Value.int IntKind.i64 0),(Value.int IntKind.i64 0)],true⟩
@[reducible] def ZX:TI:=⟨(.struct [(3,0),(3,1),(2,2),(2,3),(25,4),(47,5)]),12,152,[(Value.int IntKind.i64 0),(Value.int IntKind.i64 0),(Value.int IntKind.i64 0),(Value.int IntKind.i64 0),(Value.slice none 0 0),(Value.int IntKind.i64 0),(Value.int IntKind.u64 0),(Value.int IntKind.u64 0),(Value.int IntKind.i64 0),(Value.string { data:=#[] }),(Value.slice none 0 0),(Value.slice none 0 0)],false⟩
@[reducible] def Zm:TI:=⟨(.slice 41),1,24,[(Value.slice none 0 0)],false⟩
@[reducible] def Zy:TI:=⟨(.struct [(28,0),(58,7),(59,8),(62,9)]),11,184,[(Value.int IntKind.i64 0),(Value.slice none 0 0),(Value.int IntKind.i64 0),(Value.int IntKind.i64 0),(Value.int IntKind.i64 0),(Value.slice none 0 0),(Value.slice none 0 0),(Value.slice none 0 0),(Value.slice none 0 0),(Value.int IntKind.i64 0),(Value.slice none 0 0)],false⟩
@[reducible] def ZO:TI:=⟨(.struct [(2,0),(60,1)]),2,32,[(Value.int IntKind.i64 0),(Value.slice none 0 0)],false⟩
@[reducible] def ZS:TI:=⟨(.struct [(9,0),(42,1),(43,2)]),3,64,[(Value.string { data:=#[] }),(Value.slice none 0 0),(Value.slice none 0 0)],false⟩
@[reducible] def Wm:TI:=⟨(.struct [(9,0),(9,1)]),2,32,[(Value.string { data:=#[] }),(Value.string { data:=#[] })],true⟩
@[reducible] def k5:TI:=⟨(.int .u8),1,1,[(Value.int IntKind.u8 0)],false⟩
@[reducible] def Zo:TI:=⟨(.int .i64),1,8,[(Value.int IntKind.i64 0)],false⟩
@[reducible] def ZL:TI:=⟨(.struct [(3,0),(22,1)]),2,32,[(Value.int IntKind.i64 0),(Value.slice none 0 0)],false⟩
@[reducible] def Zq:TI:=⟨(.struct [(9,0),(9,1),(33,2),(33,3)]),4,48,[(Value.string { data:=#[] }),(Value.string { data:=#[] }),(Value.int IntKind.u64 0),(Value.int IntKind.u64 0)],true⟩
@[reducible] def Z2:TI:=⟨(.slice 35),1,24,[(Value.slice none 0 0)],false⟩
@[reducible] def ZD:TI:=⟨(.slice 71),1,24,[(Value.slice none 0 0)],false⟩
@[reducible] def ZF:TI:=⟨(.slice 42),1,24,[(Value.slice none 0 0)],false⟩
@[reducible] def ZT:TI:=⟨(.slice 76),1,24,[(Value.slice none 0 0)],false⟩
@[reducible] def ZZ:TI:=⟨(.int .i32),1,4,[(Value.int IntKind.i32 0)],false⟩
@[reducible] def ZM:TI:=⟨(.struct [(54,0),(43,1),(3,2),(3,3),(3,4),(3,5),(3,6),(3,7),(3,8)]),9,104,[(Value.slice none 0 0),(Value.slice none 0 0),(Value.int IntKind.i64 0),(Value.int IntKind.i64 0),(Value.int IntKind.i64 0),(Value.int IntKind.i64 0),(Value.int IntKind.i64 0),(Value.int IntKind.i64 0),(Value.int IntKind.i64 0)],false⟩
@[reducible] def ZE:TI:=⟨(.struct [(41,0),(45,4)]),7,96,[(Value.int IntKind.i64 0),(Value.int IntKind.u64 0),(Value.int IntKind.u64 0),(Value.int IntKind.i64 0),(Value.string { data:=#[] }),(Value.slice none 0 0),(Value.slice none 0 0)],false⟩
@[reducible] def ZJ:TI:=⟨(.slice 33),1,24,[(Value.slice none 0 0)],false⟩
@[reducible] def UF:TI:=⟨(.struct [(64,0),(3,11),(138,12),(65,13)]),14,240,[(Value.int IntKind.i64 0),(Value.slice none 0 0),(Value.int IntKind.i64 0),(Value.int IntKind.i64 0),(Value.int IntKind.i64 0),(Value.slice none 0 0),(Value.slice none 0 0),(Value.slice none 0 0),(Value.slice none 0 0),(Value.int IntKind.i64 0),(Value.slice none 0 0),(Value.int IntKind.i64 0),(Value.slice none 0 0),(Value.slice none 0 0)],false⟩
@[reducible] def Z0:TI:=⟨(.slice 159),1,24,[(Value.slice none 0 0)],false⟩
@[reducible] def Zu:TI:=⟨(.struct [(3,0),(3,1),(9,2),(69,3),(71,4)]),16,208,[(Value.int IntKind.i64 0),(Value.int IntKind.i64 0),(Value.string { data:=#[] }),(Value.slice none 0 0),(Value.int IntKind.i64 0),(Value.int IntKind.i64 0),(Value.int IntKind.i64 0),(Value.int IntKind.i64 0),(Value.slice none 0 0),(Value.int IntKind.i64 0),(Value.int IntKind.u64 0),(Value.int IntKind.u64 0),(Value.int IntKind.i64 0),(Value.string { data:=#[] }),(Value.slice none 0 0),(Value.slice none 0 0)],false⟩
@[reducible] def Zz:TI:=⟨(.slice 3),1,24,[(Value.slice none 0 0)],false⟩
@[reducible] def VX:TI:=⟨(.slice 5),1,24,[(Value.slice none 0 0)],false⟩
@[reducible] def Ut:TI:=⟨(.slice 69),1,24,[(Value.slice none 0 0)],false⟩
@[reducible] def Z1:TI:=⟨(.slice 167),1,24,[(Value.slice none 0 0)],false⟩
@[reducible] def Tl:TI:=⟨(.int .u64),1,8,[(Value.int IntKind.u64 0)],false⟩
@[reducible] def VA:TI:=⟨(.struct [(286,0),(216,1)]),2,32,[(Value.pointer none),(Value.slice none 0 0)],false⟩
@[reducible] def TM:TI:=⟨(.pointer 140),1,8,[(Value.pointer none)],false⟩
@[reducible] def U9:TI:=⟨.other,1,8,[(Value.map none)],false⟩
@[reducible] def VL:TI:=⟨(.int .u32),1,4,[(Value.int IntKind.u32 0)],false⟩
@[reducible] def ZG:TI:=⟨(.slice 73),1,24,[(Value.slice none 0 0)],false⟩
@[reducible] def VC:TI:=⟨(.pointer 288),1,8,[(Value.pointer none)],false⟩
@[reducible] def ZW:TI:=⟨(.slice 25),1,24,[(Value.slice none 0 0)],false⟩
@[reducible] def UB:TI:=⟨.other,1,8,[(Value.map none)],false⟩
@[reducible] def U8:TI:=⟨(.struct [(3,0),(3,1),(3,2),(2,3)]),4,32,[(Value.int IntKind.i64 0),(Value.int IntKind.i64 0),(Value.int IntKind.i64 0),(Value.int IntKind.i64 0)],true⟩
@[reducible] def Uf:TI:=⟨.other,1,8,[Value.nilFunc],false⟩
@[reducible] def UA:TI:=⟨.other,1,8,[(Value.map none)],false⟩
@[reducible] def Ts:TI:=⟨(.struct [(5,0),(5,1)]),2,2,[(Value.int IntKind.u8 0),(Value.int IntKind.u8 0)],true⟩
@[reducible] def k4:TI:=⟨.bool,1,1,[(Value.bool false)],false⟩
@[reducible] def Tq:TI:=⟨.other,1,8,[Value.nilFunc],false⟩
@[reducible] def VZ:TI:=⟨(.pointer 296),1,8,[(Value.pointer none)],false⟩
@[reducible] def Wq:TI:=⟨.other,1,8,[Value.nilFunc],false⟩
@[reducible] def Ui:TI:=⟨(.array 8 5),8,8,[(Value.int IntKind.u8 0),(Value.int IntKind.u8 0),(Value.int IntKind.u8 0),(Value.int IntKind.u8 0),(Value.int IntKind.u8 0),(Value.int IntKind.u8 0),(Value.int IntKind.u8 0),(Value.int IntKind.u8 0)],false⟩
@[reducible] def Ua:TI:=⟨(.array 16 5),16,16,[(Value.int IntKind.u8 0),(Value.int IntKind.u8 0),(Value.int IntKind.u8 0),(Value.int IntKind.u8 0),(Value.int IntKind.u8 0),(Value.int IntKind.u8 0),(Value.int IntKind.u8 0),(Value.int IntKind.u8 0),(Value.int IntKind.u8 0),(Value.int IntKind.u8 0),(Value.int IntKind.u8 0),(Value.int IntKind.u8 0),(Value.int IntKind.u8 0),(Value.int IntKind.u8 0),(Value.int IntKind.u8 0),(Value.int IntKind.u8 0)],false⟩
@[reducible] def UM:TI:=⟨.other,1,8,[(Value.pointer none)],false⟩
@[reducible] def ZV:TI:=⟨.other,1,8,[Value.nilFunc],false⟩
@[reducible] def Vw:TI:=⟨.other,1,8,[Value.nilFunc],false⟩
@[reducible] def UH:TI:=⟨.other,1,8,[Value.nilFunc],false⟩
@[reducible] def VW:TI:=⟨.other,1,16,[Value.nilIface],false⟩
@[reducible] def Vv:TI:=⟨.other,1,8,[Value.nilFunc],false⟩
@[reducible] def TQ:TI:=⟨.other,1,8,[Value.nilFunc],false⟩
@[reducible] def Tw:TI:=⟨.other,1,8,[Value.nilFunc],false⟩
@[reducible] def T8:TI:=⟨.other,1,8,[Value.nilFunc],false⟩
@[reducible] def VR:TI:=⟨(.pointer 5),1,8,[(Value.pointer none)],false⟩
@[reducible] def U7:TI:=⟨(.array 16 378),32,32,[(Value.int IntKind.u8 0),(Value.int IntKind.u8 0),(Value.int IntKind.u8 0),(Value.int IntKind.u8 0),(Value.int IntKind.u8 0),(Value.int IntKind.u8 0),(Value.int IntKind.u8 0),(Value.int IntKind.u8 0),(Value.int IntKind.u8 0),(Value.int IntKind.u8 0),(Value.int IntKind.u8 0),(Value.int IntKind.u8 0),(Value.int IntKind.u8 0),(Value.int IntKind.u8 0),(Value.int IntKind.u8 0),(Value.int IntKind.u8 0),(Value.int IntKind.u8 0),(Value.int IntKind.u8 0),(Value.int IntKind.u8 0),(Value.int IntKind.u8 0),(Value.int IntKind.u8 0),(Value.int IntKind.u8 0),(Value.int IntKind.u8 0),(Value.int IntKind.u8 0),(Value.int IntKind.u8 0),(Value.int IntKind.u8 0),(Value.int IntKind.u8 0),(Value.int IntKind.u8 0),(Value.int IntKind.u8 0),(Value.int IntKind.u8 0),(Value.int IntKind.u8 0),(Value.int IntKind.u8 0)],false⟩
def tbl:List (Nat×TI):=[
(3,k3),(9,k9),(28,ZQ),(33,Z4),(2,k2),(41,ZB),(42,ZR),(54,ZP),(76,Zx),(159,TG),(71,ZX),(25,Zm),(64,Zy),(62,ZO),(45,ZS),(122,Wm),(5,k5),(29,Zo),(24,ZL),(35,Zq),(22,Z2),(60,ZD),(26,ZF),(58,ZT),(21,ZZ),(56,ZM),(47,ZE),(43,ZJ),(140,UF),(59,Z0),(73,Zu),(69,Zz),(216,VX),(138,Ut),(65,Z1),(254,Tl),(288,VA),(134,TM),(231,U9),(307,VL),(57,ZG),(286,VC),(84,ZW),(194,UB),(167,U8),(252,Uf),(282,UA),(378,Ts),(4,k4),(163,Tq),(300,VZ),(303,Wq),(272,Ui),(304,Ua),(359,UM),(99,ZV),(160,Vw),(197,UH),(290,VW),(315,Vv),(367,TQ),(383,Tw),(207,T8),(338,VR),(379,U7)]
def tb:Tb:=TF tbl
theorem tb3:TI.ok Tryz.prog 3 k3 where
 info:=⟨Tryz.t3,by kernel_rfl,rfl,rfl,_,rfl,rfl⟩
 kind:=⟨_,Tryz.underlying3,rfl⟩
 flat:=fun h=>absurd h (by decide)
theorem tb9:TI.ok Tryz.prog 9 k9 where
 info:=⟨Tryz.t9,by kernel_rfl,rfl,rfl,_,rfl,rfl⟩
 kind:=⟨_,Tryz.underlying9,rfl⟩
 flat:=fun h=>absurd h (by decide)
theorem XM:TI.ok Tryz.prog 28 ZQ where
 info:=⟨Tryz.t28,by kernel_rfl,rfl,rfl,_,rfl,rfl⟩
 kind:=⟨_,Tryz.underlying28,⟨_,rfl,by rfl,by simp⟩⟩
 flat:=fun h=>absurd h (by decide)
theorem XY:TI.ok Tryz.prog 33 Z4 where
 info:=⟨Tryz.t33,by kernel_rfl,rfl,rfl,_,rfl,rfl⟩
 kind:=⟨_,Tryz.underlying33,rfl⟩
 flat:=fun h=>absurd h (by decide)
theorem tb2:TI.ok Tryz.prog 2 k2 where
 info:=⟨Tryz.t2,by kernel_rfl,rfl,rfl,_,rfl,rfl⟩
 kind:=⟨_,Tryz.underlying2,rfl⟩
 flat:=fun h=>absurd h (by decide)
theorem Xj:TI.ok Tryz.prog 41 ZB where
 info:=⟨Tryz.t41,by kernel_rfl,rfl,rfl,_,rfl,rfl⟩
 kind:=⟨_,Tryz.underlying41,⟨_,rfl,by rfl,by simp⟩⟩
 flat:=fun _=>⟨by kernel_rfl,by kernel_rfl⟩
theorem Xx:TI.ok Tryz.prog 42 ZR where
 info:=⟨Tryz.t42,by kernel_rfl,rfl,rfl,_,rfl,rfl⟩
 kind:=⟨_,Tryz.underlying42,rfl⟩
 flat:=fun h=>absurd h (by decide)
theorem XJ:TI.ok Tryz.prog 54 ZP where
 info:=⟨Tryz.t54,by kernel_rfl,rfl,rfl,_,rfl,rfl⟩
 kind:=⟨_,Tryz.underlying54,rfl⟩
 flat:=fun h=>absurd h (by decide)
theorem Ym:TI.ok Tryz.prog 76 Zx where
 info:=⟨Tryz.t76,by kernel_rfl,rfl,rfl,_,rfl,rfl⟩
 kind:=⟨_,Tryz.underlying76,⟨_,rfl,by rfl,by simp⟩⟩
 flat:=fun h=>absurd h (by decide)
theorem Vh:TI.ok Tryz.prog 159 TG where
 info:=⟨Tryz.t159,by kernel_rfl,rfl,rfl,_,rfl,rfl⟩
 kind:=⟨_,Tryz.underlying159,⟨_,rfl,by rfl,by simp⟩⟩
 flat:=fun _=>⟨by kernel_rfl,by kernel_rfl⟩
theorem XG:TI.ok Tryz.prog 71 ZX where
 info:=⟨Tryz.t71,by kernel_rfl,rfl,rfl,_,rfl,rfl⟩
 kind:=⟨_,Tryz.underlying71,⟨_,rfl,by rfl,by simp⟩⟩
 flat:=fun h=>absurd h (by decide)
theorem Yc:TI.ok Tryz.prog 25 Zm where
 info:=⟨Tryz.t25,by kernel_rfl,rfl,rfl,_,rfl,rfl⟩
 kind:=⟨_,Tryz.underlying25,rfl⟩
 flat:=fun h=>absurd h (by decide)
theorem Xn:TI.ok Tryz.prog 64 Zy where
 info:=⟨Tryz.t64,by kernel_rfl,rfl,rfl,_,rfl,rfl⟩
 kind:=⟨_,Tryz.underlying64,⟨_,rfl,by rfl,by simp⟩⟩
 flat:=fun h=>absurd h (by decide)
theorem Xl:TI.ok Tryz.prog 62 ZO where
 info:=⟨Tryz.t62,by kernel_rfl,rfl,rfl,_,rfl,rfl⟩
 kind:=⟨_,Tryz.underlying62,⟨_,rfl,by rfl,by simp⟩⟩
 flat:=fun h=>absurd h (by decide)
theorem Yh:TI.ok Tryz.prog 45 ZS where
 info:=⟨Tryz.t45,by kernel_rfl,rfl,rfl,_,rfl,rfl⟩
 kind:=⟨_,Tryz.underlying45,⟨_,rfl,by rfl,by simp⟩⟩
 flat:=fun h=>absurd h (by decide)
theorem Ur:TI.ok Tryz.prog 122 Wm where
 info:=⟨Tryz.t122,by kernel_rfl,rfl,rfl,_,rfl,rfl⟩
 kind:=⟨_,Tryz.underlying122,⟨_,rfl,by rfl,by simp⟩⟩
 flat:=fun _=>⟨by kernel_rfl,by kernel_rfl⟩
theorem tb5:TI.ok Tryz.prog 5 k5 where
 info:=⟨Tryz.t5,by kernel_rfl,rfl,rfl,_,rfl,rfl⟩
 kind:=⟨_,Tryz.underlying5,rfl⟩
 flat:=fun h=>absurd h (by decide)
theorem Yg:TI.ok Tryz.prog 29 Zo where
 info:=⟨Tryz.t29,by kernel_rfl,rfl,rfl,_,rfl,rfl⟩
 kind:=⟨_,Tryz.underlying29,rfl⟩
 flat:=fun h=>absurd h (by decide)
theorem X7:TI.ok Tryz.prog 24 ZL where
 info:=⟨Tryz.t24,by kernel_rfl,rfl,rfl,_,rfl,rfl⟩
 kind:=⟨_,Tryz.underlying24,⟨_,rfl,by rfl,by simp⟩⟩
 flat:=fun h=>absurd h (by decide)
theorem Yk:TI.ok Tryz.prog 35 Zq where
 info:=⟨Tryz.t35,by kernel_rfl,rfl,rfl,_,rfl,rfl⟩
 kind:=⟨_,Tryz.underlying35,⟨_,rfl,by rfl,by simp⟩⟩
 flat:=fun _=>⟨by kernel_rfl,by kernel_rfl⟩
theorem XI:TI.ok Tryz.prog 22 Z2 where
 info:=⟨Tryz.t22,by kernel_rfl,rfl,rfl,_,rfl,rfl⟩
 kind:=⟨_,Tryz.underlying22,rfl⟩
 flat:=fun h=>absurd h (by decide)
theorem XL:TI.ok Tryz.prog 60 ZD where
 info:=⟨Tryz.t60,by kernel_rfl,rfl,rfl,_,rfl,rfl⟩
 kind:=⟨_,Tryz.underlying60,rfl⟩
 flat:=fun h=>absurd h (by decide)
theorem XT:TI.ok Tryz.prog 26 ZF where
 info:=⟨Tryz.t26,by kernel_rfl,rfl,rfl,_,rfl,rfl⟩
 kind:=⟨_,Tryz.underlying26,rfl⟩
 flat:=fun h=>absurd h (by decide)
theorem XR:TI.ok Tryz.prog 58 ZT where
 info:=⟨Tryz.t58,by kernel_rfl,rfl,rfl,_,rfl,rfl⟩
 kind:=⟨_,Tryz.underlying58,rfl⟩
 flat:=fun h=>absurd h (by decide)
theorem XC:TI.ok Tryz.prog 21 ZZ where
 info:=⟨Tryz.t21,by kernel_rfl,rfl,rfl,_,rfl,rfl⟩
 kind:=⟨_,Tryz.underlying21,rfl⟩
 flat:=fun h=>absurd h (by decide)
theorem Yj:TI.ok Tryz.prog 56 ZM where
 info:=⟨Tryz.t56,by kernel_rfl,rfl,rfl,_,rfl,rfl⟩
 kind:=⟨_,Tryz.underlying56,⟨_,rfl,by rfl,by simp⟩⟩
 flat:=fun h=>absurd h (by decide)
theorem Xs:TI.ok Tryz.prog 47 ZE where
 info:=⟨Tryz.t47,by kernel_rfl,rfl,rfl,_,rfl,rfl⟩
 kind:=⟨_,Tryz.underlying47,⟨_,rfl,by rfl,by simp⟩⟩
 flat:=fun h=>absurd h (by decide)
theorem XU:TI.ok Tryz.prog 43 ZJ where
 info:=⟨Tryz.t43,by kernel_rfl,rfl,rfl,_,rfl,rfl⟩
 kind:=⟨_,Tryz.underlying43,rfl⟩
 flat:=fun h=>absurd h (by decide)
theorem TP:TI.ok Tryz.prog 140 UF where
 info:=⟨Tryz.t140,by kernel_rfl,rfl,rfl,_,rfl,rfl⟩
 kind:=⟨_,Tryz.underlying140,⟨_,rfl,by rfl,by simp⟩⟩
 flat:=fun h=>absurd h (by decide)
theorem Xz:TI.ok Tryz.prog 59 Z0 where
 info:=⟨Tryz.t59,by kernel_rfl,rfl,rfl,_,rfl,rfl⟩
 kind:=⟨_,Tryz.underlying59,rfl⟩
 flat:=fun h=>absurd h (by decide)
theorem X8:TI.ok Tryz.prog 73 Zu where
 info:=⟨Tryz.t73,by kernel_rfl,rfl,rfl,_,rfl,rfl⟩
 kind:=⟨_,Tryz.underlying73,⟨_,rfl,by rfl,by simp⟩⟩
 flat:=fun h=>absurd h (by decide)
theorem Yi:TI.ok Tryz.prog 69 Zz where
 info:=⟨Tryz.t69,by kernel_rfl,rfl,rfl,_,rfl,rfl⟩
 kind:=⟨_,Tryz.underlying69,rfl⟩
 flat:=fun h=>absurd h (by decide)
theorem Wa:TI.ok Tryz.prog 216 VX where
 info:=⟨Tryz.t216,by kernel_rfl,rfl,rfl,_,rfl,rfl⟩
 kind:=⟨_,Tryz.underlying216,rfl⟩
 flat:=fun h=>absurd h (by decide)
theorem Vx:TI.ok Tryz.prog 138 Ut where
 info:=⟨Tryz.t138,by kernel_rfl,rfl,rfl,_,rfl,rfl⟩
 kind:=⟨_,Tryz.underlying138,rfl⟩
 flat:=fun h=>absurd h (by decide)
theorem Xo:TI.ok Tryz.prog 65 Z1 where
 info:=⟨Tryz.t65,by kernel_rfl,rfl,rfl,_,rfl,rfl⟩
 kind:=⟨_,Tryz.underlying65,rfl⟩
 flat:=fun h=>absurd h (by decide)
theorem UG:TI.ok Tryz.prog 254 Tl where
 info:=⟨Tryz.t254,by kernel_rfl,rfl,rfl,_,rfl,rfl⟩
 kind:=⟨_,Tryz.underlying254,rfl⟩
 flat:=fun h=>absurd h (by decide)
theorem Uy:TI.ok Tryz.prog 288 VA where
 info:=⟨Tryz.t288,by kernel_rfl,rfl,rfl,_,rfl,rfl⟩
 kind:=⟨_,Tryz.underlying288,⟨_,rfl,by rfl,by simp⟩⟩
 flat:=fun h=>absurd h (by decide)
theorem VE:TI.ok Tryz.prog 134 TM where
 info:=⟨Tryz.t134,by kernel_rfl,rfl,rfl,_,rfl,rfl⟩
 kind:=⟨_,Tryz.underlying134,rfl⟩
 flat:=fun h=>absurd h (by decide)
theorem VT:TI.ok Tryz.prog 231 U9 where
 info:=⟨Tryz.t231,by kernel_rfl,rfl,rfl,_,rfl,rfl⟩
 kind:=⟨_,Tryz.underlying231,⟨(by intro fs h;cases h),(by intro n e h;cases h)⟩⟩
 flat:=fun h=>absurd h (by decide)
theorem Wc:TI.ok Tryz.prog 307 VL where
 info:=⟨Tryz.t307,by kernel_rfl,rfl,rfl,_,rfl,rfl⟩
 kind:=⟨_,Tryz.underlying307,rfl⟩
 flat:=fun h=>absurd h (by decide)
theorem XK:TI.ok Tryz.prog 57 ZG where
 info:=⟨Tryz.t57,by kernel_rfl,rfl,rfl,_,rfl,rfl⟩
 kind:=⟨_,Tryz.underlying57,rfl⟩
 flat:=fun h=>absurd h (by decide)
theorem Ul:TI.ok Tryz.prog 286 VC where
 info:=⟨Tryz.t286,by kernel_rfl,rfl,rfl,_,rfl,rfl⟩
 kind:=⟨_,Tryz.underlying286,rfl⟩
 flat:=fun h=>absurd h (by decide)
theorem X1:TI.ok Tryz.prog 84 ZW where
 info:=⟨Tryz.t84,by kernel_rfl,rfl,rfl,_,rfl,rfl⟩
 kind:=⟨_,Tryz.underlying84,rfl⟩
 flat:=fun h=>absurd h (by decide)
theorem U1:TI.ok Tryz.prog 194 UB where
 info:=⟨Tryz.t194,by kernel_rfl,rfl,rfl,_,rfl,rfl⟩
 kind:=⟨_,Tryz.underlying194,⟨(by intro fs h;cases h),(by intro n e h;cases h)⟩⟩
 flat:=fun h=>absurd h (by decide)
theorem UN:TI.ok Tryz.prog 167 U8 where
 info:=⟨Tryz.t167,by kernel_rfl,rfl,rfl,_,rfl,rfl⟩
 kind:=⟨_,Tryz.underlying167,⟨_,rfl,by rfl,by simp⟩⟩
 flat:=fun _=>⟨by kernel_rfl,by kernel_rfl⟩
theorem V3:TI.ok Tryz.prog 252 Uf where
 info:=⟨Tryz.t252,by kernel_rfl,rfl,rfl,_,rfl,rfl⟩
 kind:=⟨_,Tryz.underlying252,⟨(by intro fs h;cases h),(by intro n e h;cases h)⟩⟩
 flat:=fun h=>absurd h (by decide)
theorem Uk:TI.ok Tryz.prog 282 UA where
 info:=⟨Tryz.t282,by kernel_rfl,rfl,rfl,_,rfl,rfl⟩
 kind:=⟨_,Tryz.underlying282,⟨(by intro fs h;cases h),(by intro n e h;cases h)⟩⟩
 flat:=fun h=>absurd h (by decide)
theorem TO:TI.ok Tryz.prog 378 Ts where
 info:=⟨Tryz.t378,by kernel_rfl,rfl,rfl,_,rfl,rfl⟩
 kind:=⟨_,Tryz.underlying378,⟨_,rfl,by rfl,by simp⟩⟩
 flat:=fun _=>⟨by kernel_rfl,by kernel_rfl⟩
theorem tb4:TI.ok Tryz.prog 4 k4 where
 info:=⟨Tryz.t4,by kernel_rfl,rfl,rfl,_,rfl,rfl⟩
 kind:=⟨_,Tryz.underlying4,rfl⟩
 flat:=fun h=>absurd h (by decide)
theorem U5:TI.ok Tryz.prog 163 Tq where
 info:=⟨Tryz.t163,by kernel_rfl,rfl,rfl,_,rfl,rfl⟩
 kind:=⟨_,Tryz.underlying163,⟨(by intro fs h;cases h),(by intro n e h;cases h)⟩⟩
 flat:=fun h=>absurd h (by decide)
theorem Tu:TI.ok Tryz.prog 300 VZ where
 info:=⟨Tryz.t300,by kernel_rfl,rfl,rfl,_,rfl,rfl⟩
 kind:=⟨_,Tryz.underlying300,rfl⟩
 flat:=fun h=>absurd h (by decide)
theorem Us:TI.ok Tryz.prog 303 Wq where
 info:=⟨Tryz.t303,by kernel_rfl,rfl,rfl,_,rfl,rfl⟩
 kind:=⟨_,Tryz.underlying303,⟨(by intro fs h;cases h),(by intro n e h;cases h)⟩⟩
 flat:=fun h=>absurd h (by decide)
theorem V8:TI.ok Tryz.prog 272 Ui where
 info:=⟨Tryz.t272,by kernel_rfl,rfl,rfl,_,rfl,rfl⟩
 kind:=⟨_,Tryz.underlying272,rfl⟩
 flat:=fun h=>absurd h (by decide)
theorem Vb:TI.ok Tryz.prog 304 Ua where
 info:=⟨Tryz.t304,by kernel_rfl,rfl,rfl,_,rfl,rfl⟩
 kind:=⟨_,Tryz.underlying304,rfl⟩
 flat:=fun h=>absurd h (by decide)
theorem U3:TI.ok Tryz.prog 359 UM where
 info:=⟨Tryz.t359,by kernel_rfl,rfl,rfl,_,rfl,rfl⟩
 kind:=⟨_,Tryz.underlying359,⟨(by intro fs h;cases h),(by intro n e h;cases h)⟩⟩
 flat:=fun h=>absurd h (by decide)
theorem Ya:TI.ok Tryz.prog 99 ZV where
 info:=⟨Tryz.t99,by kernel_rfl,rfl,rfl,_,rfl,rfl⟩
 kind:=⟨_,Tryz.underlying99,⟨(by intro fs h;cases h),(by intro n e h;cases h)⟩⟩
 flat:=fun h=>absurd h (by decide)
theorem VN:TI.ok Tryz.prog 160 Vw where
 info:=⟨Tryz.t160,by kernel_rfl,rfl,rfl,_,rfl,rfl⟩
 kind:=⟨_,Tryz.underlying160,⟨(by intro fs h;cases h),(by intro n e h;cases h)⟩⟩
 flat:=fun h=>absurd h (by decide)
theorem TE:TI.ok Tryz.prog 197 UH where
 info:=⟨Tryz.t197,by kernel_rfl,rfl,rfl,_,rfl,rfl⟩
 kind:=⟨_,Tryz.underlying197,⟨(by intro fs h;cases h),(by intro n e h;cases h)⟩⟩
 flat:=fun h=>absurd h (by decide)
theorem VO:TI.ok Tryz.prog 290 VW where
 info:=⟨Tryz.t290,by kernel_rfl,rfl,rfl,_,rfl,rfl⟩
 kind:=⟨_,Tryz.underlying290,⟨(by intro fs h;cases h),(by intro n e h;cases h)⟩⟩
 flat:=fun h=>absurd h (by decide)
theorem UZ:TI.ok Tryz.prog 315 Vv where
 info:=⟨Tryz.t315,by kernel_rfl,rfl,rfl,_,rfl,rfl⟩
 kind:=⟨_,Tryz.underlying315,⟨(by intro fs h;cases h),(by intro n e h;cases h)⟩⟩
 flat:=fun h=>absurd h (by decide)
theorem Th:TI.ok Tryz.prog 367 TQ where
 info:=⟨Tryz.t367,by kernel_rfl,rfl,rfl,_,rfl,rfl⟩
 kind:=⟨_,Tryz.underlying367,⟨(by intro fs h;cases h),(by intro n e h;cases h)⟩⟩
 flat:=fun h=>absurd h (by decide)
theorem Tg:TI.ok Tryz.prog 383 Tw where
 info:=⟨Tryz.t383,by kernel_rfl,rfl,rfl,_,rfl,rfl⟩
 kind:=⟨_,Tryz.underlying383,⟨(by intro fs h;cases h),(by intro n e h;cases h)⟩⟩
 flat:=fun h=>absurd h (by decide)
theorem Tt:TI.ok Tryz.prog 207 T8 where
 info:=⟨Tryz.t207,by kernel_rfl,rfl,rfl,_,rfl,rfl⟩
 kind:=⟨_,Tryz.underlying207,⟨(by intro fs h;cases h),(by intro n e h;cases h)⟩⟩
 flat:=fun h=>absurd h (by decide)
theorem VG:TI.ok Tryz.prog 338 VR where
 info:=⟨Tryz.t338,by kernel_rfl,rfl,rfl,_,rfl,rfl⟩
 kind:=⟨_,Tryz.underlying338,rfl⟩
 flat:=fun h=>absurd h (by decide)
theorem TJ:TI.ok Tryz.prog 379 U7 where
 info:=⟨Tryz.t379,by kernel_rfl,rfl,rfl,_,rfl,rfl⟩
 kind:=⟨_,Tryz.underlying379,rfl⟩
 flat:=fun h=>absurd h (by decide)
theorem eW:g9 Tryz.prog tb:=LA ⟨tb3,tb9,XM,XY,tb2,Xj,Xx,XJ,Ym,Vh,XG,Yc,Xn,Xl,Yh,Ur,tb5,Yg,X7,Yk,XI,XL,XT,XR,XC,Yj,Xs,XU,TP,Xz,X8,Yi,Wa,Vx,Xo,UG,Uy,VE,VT,Wc,XK,Ul,X1,U1,UN,V3,Uk,TO,tb4,U5,Tu,Us,V8,Vb,U3,Ya,VN,TE,VO,UZ,Th,Tg,Tt,VG,TJ,trivial⟩
theorem mixed:Tryz.prog.follows .mixedOrders=true:=by kernel_rfl
theorem bd8:dK Tryz.prog 8:=⟨_,Tryz.func8,rfl,rfl⟩
theorem T5:dK Tryz.prog 10:=⟨_,Tryz.func10,rfl,rfl⟩
theorem Yo:dK Tryz.prog 11:=⟨_,Tryz.func11,rfl,rfl⟩
theorem UJ:dK Tryz.prog 12:=⟨_,Tryz.func12,rfl,rfl⟩
theorem XD:dK Tryz.prog 13:=⟨_,Tryz.func13,rfl,rfl⟩
theorem XB:dK Tryz.prog 14:=⟨_,Tryz.func14,rfl,rfl⟩
theorem Yb:dK Tryz.prog 15:=⟨_,Tryz.func15,rfl,rfl⟩
theorem X9:dK Tryz.prog 20:=⟨_,Tryz.func20,rfl,rfl⟩
theorem Uq:dK Tryz.prog 23:=⟨_,Tryz.func23,rfl,rfl⟩
theorem Ud:dK Tryz.prog 24:=⟨_,Tryz.func24,rfl,rfl⟩
theorem X3:dK Tryz.prog 25:=⟨_,Tryz.func25,rfl,rfl⟩
theorem Xk:dK Tryz.prog 26:=⟨_,Tryz.func26,rfl,rfl⟩
theorem Yn:dK Tryz.prog 28:=⟨_,Tryz.func28,rfl,rfl⟩
theorem MR:dK Tryz.prog 33:=⟨_,Tryz.func33,rfl,rfl⟩
theorem RB:dK Tryz.prog 34:=⟨_,Tryz.func34,rfl,rfl⟩
theorem Xm:dK Tryz.prog 35:=⟨_,Tryz.func35,rfl,rfl⟩
theorem OI:dK Tryz.prog 36:=⟨_,Tryz.func36,rfl,rfl⟩
theorem XF:dK Tryz.prog 37:=⟨_,Tryz.func37,rfl,rfl⟩
theorem Sh:dK Tryz.prog 38:=⟨_,Tryz.func38,rfl,rfl⟩
theorem UI:dK Tryz.prog 39:=⟨_,Tryz.func39,rfl,rfl⟩
theorem Tv:dK Tryz.prog 40:=⟨_,Tryz.func40,rfl,rfl⟩
theorem XP:dK Tryz.prog 41:=⟨_,Tryz.func41,rfl,rfl⟩
theorem Xt:dK Tryz.prog 42:=⟨_,Tryz.func42,rfl,rfl⟩
theorem D6:dK Tryz.prog 43:=⟨_,Tryz.func43,rfl,rfl⟩
theorem UY:dK Tryz.prog 44:=⟨_,Tryz.func44,rfl,rfl⟩
theorem Yp:dK Tryz.prog 45:=⟨_,Tryz.func45,rfl,rfl⟩
theorem Vg:dK Tryz.prog 46:=⟨_,Tryz.func46,rfl,rfl⟩
theorem XH:dK Tryz.prog 47:=⟨_,Tryz.func47,rfl,rfl⟩
theorem Yf:dK Tryz.prog 48:=⟨_,Tryz.func48,rfl,rfl⟩
theorem HI:dK Tryz.prog 49:=⟨_,Tryz.func49,rfl,rfl⟩
theorem Xf:dK Tryz.prog 50:=⟨_,Tryz.func50,rfl,rfl⟩
theorem TH:dK Tryz.prog 51:=⟨_,Tryz.func51,rfl,rfl⟩
theorem Xg:dK Tryz.prog 52:=⟨_,Tryz.func52,rfl,rfl⟩
theorem Yl:dK Tryz.prog 53:=⟨_,Tryz.func53,rfl,rfl⟩
theorem RQ:dK Tryz.prog 55:=⟨_,Tryz.func55,rfl,rfl⟩
theorem MZ:dK Tryz.prog 58:=⟨_,Tryz.func58,rfl,rfl⟩
theorem Xe:dK Tryz.prog 59:=⟨_,Tryz.func59,rfl,rfl⟩
theorem XZ:dK Tryz.prog 61:=⟨_,Tryz.func61,rfl,rfl⟩
theorem Cu:dK Tryz.prog 62:=⟨_,Tryz.func62,rfl,rfl⟩
theorem Px:dK Tryz.prog 63:=⟨_,Tryz.func63,rfl,rfl⟩
theorem XE:dK Tryz.prog 64:=⟨_,Tryz.func64,rfl,rfl⟩
theorem Xi:dK Tryz.prog 65:=⟨_,Tryz.func65,rfl,rfl⟩
theorem Ye:dK Tryz.prog 66:=⟨_,Tryz.func66,rfl,rfl⟩
theorem vW:dK Tryz.prog 67:=⟨_,Tryz.func67,rfl,rfl⟩
theorem Ry:dK Tryz.prog 68:=⟨_,Tryz.func68,rfl,rfl⟩
theorem VY:dK Tryz.prog 69:=⟨_,Tryz.func69,rfl,rfl⟩
theorem XX:dK Tryz.prog 70:=⟨_,Tryz.func70,rfl,rfl⟩
theorem Vn:dK Tryz.prog 71:=⟨_,Tryz.func71,rfl,rfl⟩
theorem V0:dK Tryz.prog 72:=⟨_,Tryz.func72,rfl,rfl⟩
theorem X5:dK Tryz.prog 73:=⟨_,Tryz.func73,rfl,rfl⟩
theorem Sp:dK Tryz.prog 74:=⟨_,Tryz.func74,rfl,rfl⟩
theorem Xp:dK Tryz.prog 75:=⟨_,Tryz.func75,rfl,rfl⟩
theorem X4:dK Tryz.prog 76:=⟨_,Tryz.func76,rfl,rfl⟩
theorem X0:dK Tryz.prog 77:=⟨_,Tryz.func77,rfl,rfl⟩
theorem Xw:dK Tryz.prog 78:=⟨_,Tryz.func78,rfl,rfl⟩
theorem Yd:dK Tryz.prog 79:=⟨_,Tryz.func79,rfl,rfl⟩
theorem XV:dK Tryz.prog 81:=⟨_,Tryz.func81,rfl,rfl⟩
theorem VI:dK Tryz.prog 86:=⟨_,Tryz.func86,rfl,rfl⟩
theorem Ub:dK Tryz.prog 87:=⟨_,Tryz.func87,rfl,rfl⟩
theorem Ux:dK Tryz.prog 88:=⟨_,Tryz.func88,rfl,rfl⟩
theorem Rv:dK Tryz.prog 89:=⟨_,Tryz.func89,rfl,rfl⟩
theorem R0:dK Tryz.prog 90:=⟨_,Tryz.func90,rfl,rfl⟩
theorem X2:dK Tryz.prog 91:=⟨_,Tryz.func91,rfl,rfl⟩
theorem Va:dK Tryz.prog 92:=⟨_,Tryz.func92,rfl,rfl⟩
theorem Mv:dK Tryz.prog 93:=⟨_,Tryz.func93,rfl,rfl⟩
theorem Xy:dK Tryz.prog 94:=⟨_,Tryz.func94,rfl,rfl⟩
theorem Xu:dK Tryz.prog 95:=⟨_,Tryz.func95,rfl,rfl⟩
theorem UT:dK Tryz.prog 96:=⟨_,Tryz.func96,rfl,rfl⟩
theorem Wg:dK Tryz.prog 97:=⟨_,Tryz.func97,rfl,rfl⟩
theorem UD:dK Tryz.prog 98:=⟨_,Tryz.func98,rfl,rfl⟩
theorem NK:dK Tryz.prog 99:=⟨_,Tryz.func99,rfl,rfl⟩
theorem Lw:dK Tryz.prog 100:=⟨_,Tryz.func100,rfl,rfl⟩
theorem IC:dK Tryz.prog 101:=⟨_,Tryz.func101,rfl,rfl⟩
theorem Wp:dK Tryz.prog 102:=⟨_,Tryz.func102,rfl,rfl⟩
theorem wH:dK Tryz.prog 103:=⟨_,Tryz.func103,rfl,rfl⟩
theorem Ti:dK Tryz.prog 104:=⟨_,Tryz.func104,rfl,rfl⟩
theorem Qm:dK Tryz.prog 105:=⟨_,Tryz.func105,rfl,rfl⟩
theorem QD:dK Tryz.prog 106:=⟨_,Tryz.func106,rfl,rfl⟩
theorem Td:dK Tryz.prog 107:=⟨_,Tryz.func107,rfl,rfl⟩
theorem Wo:dK Tryz.prog 108:=⟨_,Tryz.func108,rfl,rfl⟩
theorem Vs:dK Tryz.prog 109:=⟨_,Tryz.func109,rfl,rfl⟩
theorem Qs:dK Tryz.prog 110:=⟨_,Tryz.func110,rfl,rfl⟩
theorem VU:dK Tryz.prog 111:=⟨_,Tryz.func111,rfl,rfl⟩
theorem Qj:dK Tryz.prog 112:=⟨_,Tryz.func112,rfl,rfl⟩
theorem Lg:dK Tryz.prog 113:=⟨_,Tryz.func113,rfl,rfl⟩
theorem D1:dK Tryz.prog 114:=⟨_,Tryz.func114,rfl,rfl⟩
theorem Tp:dK Tryz.prog 115:=⟨_,Tryz.func115,rfl,rfl⟩
theorem uo:dK Tryz.prog 117:=⟨_,Tryz.func117,rfl,rfl⟩
theorem UX:dK Tryz.prog 118:=⟨_,Tryz.func118,rfl,rfl⟩
theorem VV:dK Tryz.prog 119:=⟨_,Tryz.func119,rfl,rfl⟩
theorem Qf:dK Tryz.prog 120:=⟨_,Tryz.func120,rfl,rfl⟩
theorem QI:dK Tryz.prog 121:=⟨_,Tryz.func121,rfl,rfl⟩
theorem V5:dK Tryz.prog 122:=⟨_,Tryz.func122,rfl,rfl⟩
theorem VM:dK Tryz.prog 123:=⟨_,Tryz.func123,rfl,rfl⟩
theorem Qb:dK Tryz.prog 124:=⟨_,Tryz.func124,rfl,rfl⟩
theorem Vd:dK Tryz.prog 125:=⟨_,Tryz.func125,rfl,rfl⟩
theorem Tm:dK Tryz.prog 126:=⟨_,Tryz.func126,rfl,rfl⟩
theorem Q0:dK Tryz.prog 127:=⟨_,Tryz.func127,rfl,rfl⟩
theorem Q2:dK Tryz.prog 128:=⟨_,Tryz.func128,rfl,rfl⟩
theorem Vo:dK Tryz.prog 129:=⟨_,Tryz.func129,rfl,rfl⟩
theorem uY:dK Tryz.prog 130:=⟨_,Tryz.func130,rfl,rfl⟩
theorem TY:dK Tryz.prog 131:=⟨_,Tryz.func131,rfl,rfl⟩
theorem TW:dK Tryz.prog 132:=⟨_,Tryz.func132,rfl,rfl⟩
theorem We:dK Tryz.prog 133:=⟨_,Tryz.func133,rfl,rfl⟩
theorem Qt:dK Tryz.prog 134:=⟨_,Tryz.func134,rfl,rfl⟩
theorem Um:dK Tryz.prog 135:=⟨_,Tryz.func135,rfl,rfl⟩
theorem Vz:dK Tryz.prog 136:=⟨_,Tryz.func136,rfl,rfl⟩
theorem wq:dK Tryz.prog 137:=⟨_,Tryz.func137,rfl,rfl⟩
theorem Qz:dK Tryz.prog 138:=⟨_,Tryz.func138,rfl,rfl⟩
theorem V9:dK Tryz.prog 146:=⟨_,Tryz.func146,rfl,rfl⟩
theorem VF:dK Tryz.prog 147:=⟨_,Tryz.func147,rfl,rfl⟩
theorem NO:dK Tryz.prog 148:=⟨_,Tryz.func148,rfl,rfl⟩
theorem Nf:dK Tryz.prog 149:=⟨_,Tryz.func149,rfl,rfl⟩
theorem QA:dK Tryz.prog 150:=⟨_,Tryz.func150,rfl,rfl⟩
theorem VQ:dK Tryz.prog 155:=⟨_,Tryz.func155,rfl,rfl⟩
theorem Tk:dK Tryz.prog 156:=⟨_,Tryz.func156,rfl,rfl⟩
theorem U2:dK Tryz.prog 157:=⟨_,Tryz.func157,rfl,rfl⟩
theorem V4:dK Tryz.prog 158:=⟨_,Tryz.func158,rfl,rfl⟩
theorem TD:dK Tryz.prog 159:=⟨_,Tryz.func159,rfl,rfl⟩
theorem Wj:dK Tryz.prog 160:=⟨_,Tryz.func160,rfl,rfl⟩
theorem Qd:dK Tryz.prog 161:=⟨_,Tryz.func161,rfl,rfl⟩
theorem DC:dK Tryz.prog 162:=⟨_,Tryz.func162,rfl,rfl⟩
theorem QC:dK Tryz.prog 163:=⟨_,Tryz.func163,rfl,rfl⟩
theorem Mr:dK Tryz.prog 164:=⟨_,Tryz.func164,rfl,rfl⟩
theorem Ly:dK Tryz.prog 165:=⟨_,Tryz.func165,rfl,rfl⟩
theorem U6:dK Tryz.prog 166:=⟨_,Tryz.func166,rfl,rfl⟩
theorem Eh:dK Tryz.prog 167:=⟨_,Tryz.func167,rfl,rfl⟩
theorem UW:dK Tryz.prog 168:=⟨_,Tryz.func168,rfl,rfl⟩
theorem Nn:dK Tryz.prog 169:=⟨_,Tryz.func169,rfl,rfl⟩
theorem QF:dK Tryz.prog 170:=⟨_,Tryz.func170,rfl,rfl⟩
theorem Wi:dK Tryz.prog 171:=⟨_,Tryz.func171,rfl,rfl⟩
theorem TZ:dK Tryz.prog 172:=⟨_,Tryz.func172,rfl,rfl⟩
theorem M8:dK Tryz.prog 173:=⟨_,Tryz.func173,rfl,rfl⟩
theorem QB:dK Tryz.prog 174:=⟨_,Tryz.func174,rfl,rfl⟩
theorem TX:dK Tryz.prog 175:=⟨_,Tryz.func175,rfl,rfl⟩
theorem Vq:dK Tryz.prog 176:=⟨_,Tryz.func176,rfl,rfl⟩
theorem T9:dK Tryz.prog 177:=⟨_,Tryz.func177,rfl,rfl⟩
theorem Ue:dK Tryz.prog 178:=⟨_,Tryz.func178,rfl,rfl⟩
theorem Qa:dK Tryz.prog 179:=⟨_,Tryz.func179,rfl,rfl⟩
theorem U4:dK Tryz.prog 180:=⟨_,Tryz.func180,rfl,rfl⟩
theorem U0:dK Tryz.prog 181:=⟨_,Tryz.func181,rfl,rfl⟩
theorem Up:dK Tryz.prog 182:=⟨_,Tryz.func182,rfl,rfl⟩
theorem Qv:dK Tryz.prog 183:=⟨_,Tryz.func183,rfl,rfl⟩
theorem M0:dK Tryz.prog 184:=⟨_,Tryz.func184,rfl,rfl⟩
theorem IQ:dK Tryz.prog 185:=⟨_,Tryz.func185,rfl,rfl⟩
theorem UQ:dK Tryz.prog 186:=⟨_,Tryz.func186,rfl,rfl⟩
theorem Vc:dK Tryz.prog 187:=⟨_,Tryz.func187,rfl,rfl⟩
theorem QM:dK Tryz.prog 188:=⟨_,Tryz.func188,rfl,rfl⟩
theorem QH:dK Tryz.prog 189:=⟨_,Tryz.func189,rfl,rfl⟩
theorem Mw:dK Tryz.prog 190:=⟨_,Tryz.func190,rfl,rfl⟩
theorem Qe:dK Tryz.prog 206:=⟨_,Tryz.func206,rfl,rfl⟩
theorem Qp:dK Tryz.prog 207:=⟨_,Tryz.func207,rfl,rfl⟩
theorem VJ:dK Tryz.prog 210:=⟨_,Tryz.func210,rfl,rfl⟩
theorem Vk:dK Tryz.prog 211:=⟨_,Tryz.func211,rfl,rfl⟩
theorem Vi:dK Tryz.prog 212:=⟨_,Tryz.func212,rfl,rfl⟩
theorem N3:dK Tryz.prog 215:=⟨_,Tryz.func215,rfl,rfl⟩
theorem Uv:dK Tryz.prog 216:=⟨_,Tryz.func216,rfl,rfl⟩
theorem QJ:dK Tryz.prog 217:=⟨_,Tryz.func217,rfl,rfl⟩
theorem QV:dK Tryz.prog 218:=⟨_,Tryz.func218,rfl,rfl⟩
theorem Tf:dK Tryz.prog 219:=⟨_,Tryz.func219,rfl,rfl⟩
theorem TC:dK Tryz.prog 221:=⟨_,Tryz.func221,rfl,rfl⟩
theorem Vj:dK Tryz.prog 222:=⟨_,Tryz.func222,rfl,rfl⟩
theorem Qx:dK Tryz.prog 223:=⟨_,Tryz.func223,rfl,rfl⟩
theorem Qw:dK Tryz.prog 224:=⟨_,Tryz.func224,rfl,rfl⟩
theorem TB:dK Tryz.prog 226:=⟨_,Tryz.func226,rfl,rfl⟩
theorem QK:dK Tryz.prog 227:=⟨_,Tryz.func227,rfl,rfl⟩
theorem QN:dK Tryz.prog 228:=⟨_,Tryz.func228,rfl,rfl⟩
theorem Wl:dK Tryz.prog 229:=⟨_,Tryz.func229,rfl,rfl⟩
theorem QU:dK Tryz.prog 230:=⟨_,Tryz.func230,rfl,rfl⟩
theorem Vu:dK Tryz.prog 231:=⟨_,Tryz.func231,rfl,rfl⟩
theorem Vt:dK Tryz.prog 232:=⟨_,Tryz.func232,rfl,rfl⟩
theorem TT:dK Tryz.prog 233:=⟨_,Tryz.func233,rfl,rfl⟩
theorem Vm:dK Tryz.prog 234:=⟨_,Tryz.func234,rfl,rfl⟩
theorem UC:dK Tryz.prog 235:=⟨_,Tryz.func235,rfl,rfl⟩
theorem Lp:dK Tryz.prog 236:=⟨_,Tryz.func236,rfl,rfl⟩
theorem QW:dK Tryz.prog 237:=⟨_,Tryz.func237,rfl,rfl⟩
theorem Wf:dK Tryz.prog 238:=⟨_,Tryz.func238,rfl,rfl⟩
theorem Qo:dK Tryz.prog 239:=⟨_,Tryz.func239,rfl,rfl⟩
theorem QT:dK Tryz.prog 240:=⟨_,Tryz.func240,rfl,rfl⟩
theorem TA:dK Tryz.prog 241:=⟨_,Tryz.func241,rfl,rfl⟩
theorem Uw:dK Tryz.prog 242:=⟨_,Tryz.func242,rfl,rfl⟩
theorem Jh:dK Tryz.prog 243:=⟨_,Tryz.func243,rfl,rfl⟩
theorem Tz:dK Tryz.prog 244:=⟨_,Tryz.func244,rfl,rfl⟩
theorem Vp:dK Tryz.prog 245:=⟨_,Tryz.func245,rfl,rfl⟩
theorem Uo:dK Tryz.prog 246:=⟨_,Tryz.func246,rfl,rfl⟩
theorem BB:dK Tryz.prog 259:=⟨_,Tryz.func259,rfl,rfl⟩
theorem Qc:dK Tryz.prog 261:=⟨_,Tryz.func261,rfl,rfl⟩
theorem Q1:dK Tryz.prog 265:=⟨_,Tryz.func265,rfl,rfl⟩
theorem QY:dK Tryz.prog 266:=⟨_,Tryz.func266,rfl,rfl⟩
theorem L7:dK Tryz.prog 267:=⟨_,Tryz.func267,rfl,rfl⟩
theorem Wd:dK Tryz.prog 268:=⟨_,Tryz.func268,rfl,rfl⟩
theorem T4:dK Tryz.prog 270:=⟨_,Tryz.func270,rfl,rfl⟩
theorem Qh:dK Tryz.prog 271:=⟨_,Tryz.func271,rfl,rfl⟩
theorem V7:dK Tryz.prog 272:=⟨_,Tryz.func272,rfl,rfl⟩
theorem QO:dK Tryz.prog 273:=⟨_,Tryz.func273,rfl,rfl⟩
theorem Wr:dK Tryz.prog 274:=⟨_,Tryz.func274,rfl,rfl⟩
theorem Ug:dK Tryz.prog 275:=⟨_,Tryz.func275,rfl,rfl⟩
theorem Ve:dK Tryz.prog 276:=⟨_,Tryz.func276,rfl,rfl⟩
theorem QR:dK Tryz.prog 277:=⟨_,Tryz.func277,rfl,rfl⟩
theorem QZ:dK Tryz.prog 278:=⟨_,Tryz.func278,rfl,rfl⟩
theorem VK:dK Tryz.prog 279:=⟨_,Tryz.func279,rfl,rfl⟩
theorem Un:dK Tryz.prog 280:=⟨_,Tryz.func280,rfl,rfl⟩
theorem Wh:dK Tryz.prog 281:=⟨_,Tryz.func281,rfl,rfl⟩
theorem Qr:dK Tryz.prog 296:=⟨_,Tryz.func296,rfl,rfl⟩
theorem IU:dK Tryz.prog 297:=⟨_,Tryz.func297,rfl,rfl⟩
theorem VH:dK Tryz.prog 298:=⟨_,Tryz.func298,rfl,rfl⟩
theorem UO:dK Tryz.prog 299:=⟨_,Tryz.func299,rfl,rfl⟩
theorem T7:dK Tryz.prog 300:=⟨_,Tryz.func300,rfl,rfl⟩
theorem V2:dK Tryz.prog 301:=⟨_,Tryz.func301,rfl,rfl⟩
theorem To:dK Tryz.prog 302:=⟨_,Tryz.func302,rfl,rfl⟩
theorem Vf:dK Tryz.prog 303:=⟨_,Tryz.func303,rfl,rfl⟩
theorem Wk:dK Tryz.prog 316:=⟨_,Tryz.func316,rfl,rfl⟩
theorem Vr:dK Tryz.prog 317:=⟨_,Tryz.func317,rfl,rfl⟩
theorem UR:dK Tryz.prog 318:=⟨_,Tryz.func318,rfl,rfl⟩
theorem Vy:dK Tryz.prog 319:=⟨_,Tryz.func319,rfl,rfl⟩
theorem Ty:dK Tryz.prog 329:=⟨_,Tryz.func329,rfl,rfl⟩
end Go.Proofs.YthbnddgjkonkdaaGreatDoor
