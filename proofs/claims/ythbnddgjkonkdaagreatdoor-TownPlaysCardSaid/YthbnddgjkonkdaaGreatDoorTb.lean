/- A part of the proof. -/
import Derived.Test.YthbnddgjkonkdaaGreatDoorProg
import Derived.Test.YthbnddgjkonkdaaGreatDoorFwB
import Derived.KernelRfl
namespace Go.Proofs.YthbnddgjkonkdaaGreatDoor
open Go.TR
@[reducible] def k3:TI:=⟨(.int .i64),1,8,[(Value.int IntKind.i64 0)],false⟩
@[reducible] def k9:TI:=⟨.string,1,16,[(Value.string { data:=#[] })],false⟩
@[reducible] def Zy:TI:=⟨(.struct [(24,0),(3,2),(3,3),(2,4),(25,5),(26,6)]),7,104,[(Value.int IntKind.i64 0),(Value.slice none 0 0),(Value.int IntKind.i64 0),(Value.int IntKind.i64 0),(Value.int IntKind.i64 0),(Value.slice none 0 0),(Value.slice none 0 0)],false⟩
@[reducible] def Z1:TI:=⟨(.int .u64),1,8,[(Value.int IntKind.u64 0)],false⟩
@[reducible] def k2:TI:=⟨(.int .i64),1,8,[(Value.int IntKind.i64 0)],false⟩
@[reducible] def ZE:TI:=⟨(.struct [(2,0),(33,1),(33,2),(2,3)]),4,32,[(Value.int IntKind.i64 0),(Value.int IntKind.u64 0),(Value.int IntKind.u64 0),(Value.int IntKind.i64 0)],true⟩
@[reducible] def Z0:TI:=⟨(.slice 122),1,24,[(Value.slice none 0 0)],false⟩
@[reducible] def Zs:TI:=⟨(.slice 9),1,24,[(Value.slice none 0 0)],false⟩
@[reducible] def ZQ:TI:=⟨(.struct [(9,0),(33,1),(41,2),(54,6),(3,7)]),8,88,[(Value.string { data:=#[] }),(Value.int IntKind.u64 0),(Value.int IntKind.i64 0),(Value.int IntKind.u64 0),(Value.int IntKind.u64 0),(Value.int IntKind.i64 0),(Value.slice none 0 0),(Value.int IntKind.i64 0)],false⟩
@[reducible] def T4:TI:=⟨(.struct [(3,0),(3,1),(3,2),(3,3),(2,4),(3,5)]),6,48,[(Value.int IntKind.i64 0),(Value.int IntKind.i64 0),(Value.int IntKind.i64 0),(Value.int IntKind.i64 0),(Value.int IntKind.i64 0),(Value.int IntKind.i64 0)],true⟩
@[reducible] def ZD:TI:=⟨(.struct [(3,0),(3,1),(2,2),(2,3),(25,4),(47,5)]),12,152,[(Value.int IntKind.i64 0),(Value.int IntKind.i64 0),(Value.int IntKind.i64 0),(Value.int IntKind.i64 0),(Value.slice none 0 0),(Value.int IntKind.i64 0),(Value.int IntKind.u64 0),(Value.int IntKind.u64 0),(Value.int IntKind.i64 0),(Value.string { data:=#[] }),(Value.slice none 0 0),(Value.slice none 0 0)],false⟩
@[reducible] def Zx:TI:=⟨(.slice 41),1,24,[(Value.slice none 0 0)],false⟩
@[reducible] def ZS:TI:=⟨(.struct [(28,0),(58,7),(59,8),(62,9)]),11,184,[(Value.int IntKind.i64 0),(Value.slice none 0 0),(Value.int IntKind.i64 0),(Value.int IntKind.i64 0),(Value.int IntKind.i64 0),(Value.slice none 0 0),(Value.slice none 0 0),(Value.slice none 0 0),(Value.slice none 0 0),(Value.int IntKind.i64 0),(Value.slice none 0 0)],false⟩
@[reducible] def ZH:TI:=⟨(.struct [(2,0),(60,1)]),2,32,[(Value.int IntKind.i64 0),(Value.slice none 0 0)],false⟩
@[reducible] def ZU:TI:=⟨(.struct [(9,0),(42,1),(43,2)]),3,64,[(Value.string { data:=#[] }),(Value.slice none 0 0),(Value.slice none 0 0)],false⟩
@[reducible] def U5:TI:=⟨(.struct [(9,0),(9,1)]),2,32,[(Value.string { data:=#[] }),(Value.string { data:=#[] })],true⟩
@[reducible] def k5:TI:=⟨(.int .u8),1,1,[(Value.int IntKind.u8 0)],false⟩
@[reducible] def ZA:TI:=⟨(.int .i64),1,8,[(Value.int IntKind.i64 0)],false⟩
@[reducible] def Zk:TI:=⟨(.struct [(3,0),(22,1)]),2,32,[(Value.int IntKind.i64 0),(Value.slice none 0 0)],false⟩
@[reducible] def ZC:TI:=⟨(.struct [(9,0),(9,1),(33,2),(33,3)]),4,48,[(Value.string { data:=#[] }),(Value.string { data:=#[] }),(Value.int IntKind.u64 0),(Value.int IntKind.u64 0)],true⟩
@[reducible] def Zr:TI:=⟨(.slice 35),1,24,[(Value.slice none 0 0)],false⟩
@[reducible] def ZM:TI:=⟨(.slice 71),1,24,[(Value.slice none 0 0)],false⟩
@[reducible] def Zo:TI:=⟨(.slice 42),1,24,[(Value.slice none 0 0)],false⟩
@[reducible] def ZF:TI:=⟨(.slice 76),1,24,[(Value.slice none 0 0)],false⟩
@[reducible] def ZP:TI:=⟨(.int .i32),1,4,[(Value.int IntKind.i32 0)],false⟩
@[reducible] def ZB:TI:=⟨(.struct [(54,0),(43,1),(3,2),(3,3),(3,4),(3,5),(3,6),(3,7),(3,8)]),9,104,[(Value.slice none 0 0),(Value.slice none 0 0),(Value.int IntKind.i64 0),(Value.int IntKind.i64 0),(Value.int IntKind.i64 0),(Value.int IntKind.i64 0),(Value.int IntKind.i64 0),(Value.int IntKind.i64 0),(Value.int IntKind.i64 0)],false⟩
@[reducible] def ZO:TI:=⟨(.struct [(41,0),(45,4)]),7,96,[(Value.int IntKind.i64 0),(Value.int IntKind.u64 0),(Value.int IntKind.u64 0),(Value.int IntKind.i64 0),(Value.string { data:=#[] }),(Value.slice none 0 0),(Value.slice none 0 0)],false⟩
@[reducible] def ZL:TI:=⟨(.slice 33),1,24,[(Value.slice none 0 0)],false⟩
@[reducible] def Vf:TI:=⟨(.struct [(64,0),(3,11),(138,12),(65,13)]),14,240,[(Value.int IntKind.i64 0),(Value.slice none 0 0),(Value.int IntKind.i64 0),(Value.int IntKind.i64 0),(Value.int IntKind.i64 0),(Value.slice none 0 0),(Value.slice none 0 0),(Value.slice none 0 0),(Value.slice none 0 0),(Value.int IntKind.i64 0),(Value.slice none 0 0),(Value.int IntKind.i64 0),(Value.slice none 0 0),(Value.slice none 0 0)],false⟩
@[reducible] def Zp:TI:=⟨(.slice 159),1,24,[(Value.slice none 0 0)],false⟩
@[reducible] def Zq:TI:=⟨(.struct [(3,0),(3,1),(9,2),(69,3),(71,4)]),16,208,[(Value.int IntKind.i64 0),(Value.int IntKind.i64 0),(Value.string { data:=#[] }),(Value.slice none 0 0),(Value.int IntKind.i64 0),(Value.int IntKind.i64 0),(Value.int IntKind.i64 0),(Value.int IntKind.i64 0),(Value.slice none 0 0),(Value.int IntKind.i64 0),(Value.int IntKind.u64 0),(Value.int IntKind.u64 0),(Value.int IntKind.i64 0),(Value.string { data:=#[] }),(Value.slice none 0 0),(Value.slice none 0 0)],false⟩
@[reducible] def Zj:TI:=⟨(.slice 3),1,24,[(Value.slice none 0 0)],false⟩
@[reducible] def Vv:TI:=⟨(.slice 5),1,24,[(Value.slice none 0 0)],false⟩
@[reducible] def VG:TI:=⟨(.slice 69),1,24,[(Value.slice none 0 0)],false⟩
@[reducible] def ZJ:TI:=⟨(.slice 167),1,24,[(Value.slice none 0 0)],false⟩
@[reducible] def UR:TI:=⟨(.int .u64),1,8,[(Value.int IntKind.u64 0)],false⟩
@[reducible] def TN:TI:=⟨(.struct [(286,0),(216,1)]),2,32,[(Value.pointer none),(Value.slice none 0 0)],false⟩
@[reducible] def TH:TI:=⟨(.pointer 140),1,8,[(Value.pointer none)],false⟩
@[reducible] def UM:TI:=⟨.other,1,8,[(Value.map none)],false⟩
@[reducible] def Up:TI:=⟨(.int .u32),1,4,[(Value.int IntKind.u32 0)],false⟩
@[reducible] def Zu:TI:=⟨(.slice 73),1,24,[(Value.slice none 0 0)],false⟩
@[reducible] def TE:TI:=⟨(.pointer 288),1,8,[(Value.pointer none)],false⟩
@[reducible] def ZK:TI:=⟨(.slice 25),1,24,[(Value.slice none 0 0)],false⟩
@[reducible] def Ta:TI:=⟨.other,1,8,[(Value.map none)],false⟩
@[reducible] def US:TI:=⟨(.struct [(3,0),(3,1),(3,2),(2,3)]),4,32,[(Value.int IntKind.i64 0),(Value.int IntKind.i64 0),(Value.int IntKind.i64 0),(Value.int IntKind.i64 0)],true⟩
@[reducible] def UA:TI:=⟨.other,1,8,[Value.nilFunc],false⟩
@[reducible] def VA:TI:=⟨.other,1,8,[(Value.map none)],false⟩
@[reducible] def UD:TI:=⟨(.struct [(5,0),(5,1)]),2,2,[(Value.int IntKind.u8 0),(Value.int IntKind.u8 0)],true⟩
@[reducible] def k4:TI:=⟨.bool,1,1,[(Value.bool false)],false⟩
@[reducible] def VE:TI:=⟨.other,1,8,[Value.nilFunc],false⟩
@[reducible] def Tw:TI:=⟨(.pointer 296),1,8,[(Value.pointer none)],false⟩
@[reducible] def V1:TI:=⟨.other,1,8,[Value.nilFunc],false⟩
@[reducible] def UU:TI:=⟨(.array 8 5),8,8,[(Value.int IntKind.u8 0),(Value.int IntKind.u8 0),(Value.int IntKind.u8 0),(Value.int IntKind.u8 0),(Value.int IntKind.u8 0),(Value.int IntKind.u8 0),(Value.int IntKind.u8 0),(Value.int IntKind.u8 0)],false⟩
@[reducible] def TO:TI:=⟨(.array 16 5),16,16,[(Value.int IntKind.u8 0),(Value.int IntKind.u8 0),(Value.int IntKind.u8 0),(Value.int IntKind.u8 0),(Value.int IntKind.u8 0),(Value.int IntKind.u8 0),(Value.int IntKind.u8 0),(Value.int IntKind.u8 0),(Value.int IntKind.u8 0),(Value.int IntKind.u8 0),(Value.int IntKind.u8 0),(Value.int IntKind.u8 0),(Value.int IntKind.u8 0),(Value.int IntKind.u8 0),(Value.int IntKind.u8 0),(Value.int IntKind.u8 0)],false⟩
@[reducible] def VD:TI:=⟨.other,1,8,[(Value.pointer none)],false⟩
@[reducible] def Zl:TI:=⟨.other,1,8,[Value.nilFunc],false⟩
@[reducible] def Vp:TI:=⟨.other,1,8,[Value.nilFunc],false⟩
@[reducible] def V6:TI:=⟨.other,1,8,[Value.nilFunc],false⟩
@[reducible] def TF:TI:=⟨.other,1,16,[Value.nilIface],false⟩
@[reducible] def UG:TI:=⟨.other,1,8,[Value.nilFunc],false⟩
@[reducible] def VN:TI:=⟨.other,1,8,[Value.nilFunc],false⟩
@[reducible] def Uy:TI:=⟨.other,1,8,[Value.nilFunc],false⟩
@[reducible] def TJ:TI:=⟨.other,1,8,[Value.nilFunc],false⟩
@[reducible] def VV:TI:=⟨(.pointer 5),1,8,[(Value.pointer none)],false⟩
@[reducible] def Uo:TI:=⟨(.array 16 378),32,32,[(Value.int IntKind.u8 0),(Value.int IntKind.u8 0),(Value.int IntKind.u8 0),(Value.int IntKind.u8 0),(Value.int IntKind.u8 0),(Value.int IntKind.u8 0),(Value.int IntKind.u8 0),(Value.int IntKind.u8 0),(Value.int IntKind.u8 0),(Value.int IntKind.u8 0),(Value.int IntKind.u8 0),(Value.int IntKind.u8 0),(Value.int IntKind.u8 0),(Value.int IntKind.u8 0),(Value.int IntKind.u8 0),(Value.int IntKind.u8 0),(Value.int IntKind.u8 0),(Value.int IntKind.u8 0),(Value.int IntKind.u8 0),(Value.int IntKind.u8 0),(Value.int IntKind.u8 0),(Value.int IntKind.u8 0),(Value.int IntKind.u8 0),(Value.int IntKind.u8 0),(Value.int IntKind.u8 0),(Value.int IntKind.u8 0),(Value.int IntKind.u8 0),(Value.int IntKind.u8 0),(Value.int IntKind.u8 0),(Value.int IntKind.u8 0),(Value.int IntKind.u8 0),(Value.int IntKind.u8 0)],false⟩
def tbl:List (Nat×TI):=[
(3,k3),(9,k9),(28,Zy),(33,Z1),(2,k2),(41,ZE),(42,Z0),(54,Zs),(76,ZQ),(159,T4),(71,ZD),(25,Zx),(64,ZS),(62,ZH),(45,ZU),(122,U5),(5,k5),(29,ZA),(24,Zk),(35,ZC),(22,Zr),(60,ZM),(26,Zo),(58,ZF),(21,ZP),(56,ZB),(47,ZO),(43,ZL),(140,Vf),(59,Zp),(73,Zq),(69,Zj),(216,Vv),(138,VG),(65,ZJ),(254,UR),(288,TN),(134,TH),(231,UM),(307,Up),(57,Zu),(286,TE),(84,ZK),(194,Ta),(167,US),(252,UA),(282,VA),(378,UD),(4,k4),(163,VE),(300,Tw),(303,V1),(272,UU),(304,TO),(359,VD),(99,Zl),(160,Vp),(197,V6),(290,TF),(315,UG),(367,VN),(383,Uy),(207,TJ),(338,VV),(379,Uo)]
def tb:Tb:=U8 tbl
theorem tb3:TI.ok Tryz.prog 3 k3 where
 info:=⟨Tryz.t3,by kernel_rfl,rfl,rfl,_,rfl,rfl⟩
 kind:=⟨_,Tryz.underlying3,rfl⟩
 flat:=fun h=>absurd h (by decide)
theorem tb9:TI.ok Tryz.prog 9 k9 where
 info:=⟨Tryz.t9,by kernel_rfl,rfl,rfl,_,rfl,rfl⟩
 kind:=⟨_,Tryz.underlying9,rfl⟩
 flat:=fun h=>absurd h (by decide)
theorem Xx:TI.ok Tryz.prog 28 Zy where
 info:=⟨Tryz.t28,by kernel_rfl,rfl,rfl,_,rfl,rfl⟩
 kind:=⟨_,Tryz.underlying28,⟨_,rfl,by rfl,by simp⟩⟩
 flat:=fun h=>absurd h (by decide)
theorem Xk:TI.ok Tryz.prog 33 Z1 where
 info:=⟨Tryz.t33,by kernel_rfl,rfl,rfl,_,rfl,rfl⟩
 kind:=⟨_,Tryz.underlying33,rfl⟩
 flat:=fun h=>absurd h (by decide)
theorem tb2:TI.ok Tryz.prog 2 k2 where
 info:=⟨Tryz.t2,by kernel_rfl,rfl,rfl,_,rfl,rfl⟩
 kind:=⟨_,Tryz.underlying2,rfl⟩
 flat:=fun h=>absurd h (by decide)
theorem Xn:TI.ok Tryz.prog 41 ZE where
 info:=⟨Tryz.t41,by kernel_rfl,rfl,rfl,_,rfl,rfl⟩
 kind:=⟨_,Tryz.underlying41,⟨_,rfl,by rfl,by simp⟩⟩
 flat:=fun _=>⟨by kernel_rfl,by kernel_rfl⟩
theorem XI:TI.ok Tryz.prog 42 Z0 where
 info:=⟨Tryz.t42,by kernel_rfl,rfl,rfl,_,rfl,rfl⟩
 kind:=⟨_,Tryz.underlying42,rfl⟩
 flat:=fun h=>absurd h (by decide)
theorem X9:TI.ok Tryz.prog 54 Zs where
 info:=⟨Tryz.t54,by kernel_rfl,rfl,rfl,_,rfl,rfl⟩
 kind:=⟨_,Tryz.underlying54,rfl⟩
 flat:=fun h=>absurd h (by decide)
theorem XX:TI.ok Tryz.prog 76 ZQ where
 info:=⟨Tryz.t76,by kernel_rfl,rfl,rfl,_,rfl,rfl⟩
 kind:=⟨_,Tryz.underlying76,⟨_,rfl,by rfl,by simp⟩⟩
 flat:=fun h=>absurd h (by decide)
theorem Vk:TI.ok Tryz.prog 159 T4 where
 info:=⟨Tryz.t159,by kernel_rfl,rfl,rfl,_,rfl,rfl⟩
 kind:=⟨_,Tryz.underlying159,⟨_,rfl,by rfl,by simp⟩⟩
 flat:=fun _=>⟨by kernel_rfl,by kernel_rfl⟩
theorem XT:TI.ok Tryz.prog 71 ZD where
 info:=⟨Tryz.t71,by kernel_rfl,rfl,rfl,_,rfl,rfl⟩
 kind:=⟨_,Tryz.underlying71,⟨_,rfl,by rfl,by simp⟩⟩
 flat:=fun h=>absurd h (by decide)
theorem XD:TI.ok Tryz.prog 25 Zx where
 info:=⟨Tryz.t25,by kernel_rfl,rfl,rfl,_,rfl,rfl⟩
 kind:=⟨_,Tryz.underlying25,rfl⟩
 flat:=fun h=>absurd h (by decide)
theorem Yj:TI.ok Tryz.prog 64 ZS where
 info:=⟨Tryz.t64,by kernel_rfl,rfl,rfl,_,rfl,rfl⟩
 kind:=⟨_,Tryz.underlying64,⟨_,rfl,by rfl,by simp⟩⟩
 flat:=fun h=>absurd h (by decide)
theorem Xw:TI.ok Tryz.prog 62 ZH where
 info:=⟨Tryz.t62,by kernel_rfl,rfl,rfl,_,rfl,rfl⟩
 kind:=⟨_,Tryz.underlying62,⟨_,rfl,by rfl,by simp⟩⟩
 flat:=fun h=>absurd h (by decide)
theorem X7:TI.ok Tryz.prog 45 ZU where
 info:=⟨Tryz.t45,by kernel_rfl,rfl,rfl,_,rfl,rfl⟩
 kind:=⟨_,Tryz.underlying45,⟨_,rfl,by rfl,by simp⟩⟩
 flat:=fun h=>absurd h (by decide)
theorem U9:TI.ok Tryz.prog 122 U5 where
 info:=⟨Tryz.t122,by kernel_rfl,rfl,rfl,_,rfl,rfl⟩
 kind:=⟨_,Tryz.underlying122,⟨_,rfl,by rfl,by simp⟩⟩
 flat:=fun _=>⟨by kernel_rfl,by kernel_rfl⟩
theorem tb5:TI.ok Tryz.prog 5 k5 where
 info:=⟨Tryz.t5,by kernel_rfl,rfl,rfl,_,rfl,rfl⟩
 kind:=⟨_,Tryz.underlying5,rfl⟩
 flat:=fun h=>absurd h (by decide)
theorem Yf:TI.ok Tryz.prog 29 ZA where
 info:=⟨Tryz.t29,by kernel_rfl,rfl,rfl,_,rfl,rfl⟩
 kind:=⟨_,Tryz.underlying29,rfl⟩
 flat:=fun h=>absurd h (by decide)
theorem Xp:TI.ok Tryz.prog 24 Zk where
 info:=⟨Tryz.t24,by kernel_rfl,rfl,rfl,_,rfl,rfl⟩
 kind:=⟨_,Tryz.underlying24,⟨_,rfl,by rfl,by simp⟩⟩
 flat:=fun h=>absurd h (by decide)
theorem XM:TI.ok Tryz.prog 35 ZC where
 info:=⟨Tryz.t35,by kernel_rfl,rfl,rfl,_,rfl,rfl⟩
 kind:=⟨_,Tryz.underlying35,⟨_,rfl,by rfl,by simp⟩⟩
 flat:=fun _=>⟨by kernel_rfl,by kernel_rfl⟩
theorem Xj:TI.ok Tryz.prog 22 Zr where
 info:=⟨Tryz.t22,by kernel_rfl,rfl,rfl,_,rfl,rfl⟩
 kind:=⟨_,Tryz.underlying22,rfl⟩
 flat:=fun h=>absurd h (by decide)
theorem X5:TI.ok Tryz.prog 60 ZM where
 info:=⟨Tryz.t60,by kernel_rfl,rfl,rfl,_,rfl,rfl⟩
 kind:=⟨_,Tryz.underlying60,rfl⟩
 flat:=fun h=>absurd h (by decide)
theorem Xq:TI.ok Tryz.prog 26 Zo where
 info:=⟨Tryz.t26,by kernel_rfl,rfl,rfl,_,rfl,rfl⟩
 kind:=⟨_,Tryz.underlying26,rfl⟩
 flat:=fun h=>absurd h (by decide)
theorem XP:TI.ok Tryz.prog 58 ZF where
 info:=⟨Tryz.t58,by kernel_rfl,rfl,rfl,_,rfl,rfl⟩
 kind:=⟨_,Tryz.underlying58,rfl⟩
 flat:=fun h=>absurd h (by decide)
theorem XN:TI.ok Tryz.prog 21 ZP where
 info:=⟨Tryz.t21,by kernel_rfl,rfl,rfl,_,rfl,rfl⟩
 kind:=⟨_,Tryz.underlying21,rfl⟩
 flat:=fun h=>absurd h (by decide)
theorem Yi:TI.ok Tryz.prog 56 ZB where
 info:=⟨Tryz.t56,by kernel_rfl,rfl,rfl,_,rfl,rfl⟩
 kind:=⟨_,Tryz.underlying56,⟨_,rfl,by rfl,by simp⟩⟩
 flat:=fun h=>absurd h (by decide)
theorem Xv:TI.ok Tryz.prog 47 ZO where
 info:=⟨Tryz.t47,by kernel_rfl,rfl,rfl,_,rfl,rfl⟩
 kind:=⟨_,Tryz.underlying47,⟨_,rfl,by rfl,by simp⟩⟩
 flat:=fun h=>absurd h (by decide)
theorem X1:TI.ok Tryz.prog 43 ZL where
 info:=⟨Tryz.t43,by kernel_rfl,rfl,rfl,_,rfl,rfl⟩
 kind:=⟨_,Tryz.underlying43,rfl⟩
 flat:=fun h=>absurd h (by decide)
theorem Um:TI.ok Tryz.prog 140 Vf where
 info:=⟨Tryz.t140,by kernel_rfl,rfl,rfl,_,rfl,rfl⟩
 kind:=⟨_,Tryz.underlying140,⟨_,rfl,by rfl,by simp⟩⟩
 flat:=fun h=>absurd h (by decide)
theorem XG:TI.ok Tryz.prog 59 Zp where
 info:=⟨Tryz.t59,by kernel_rfl,rfl,rfl,_,rfl,rfl⟩
 kind:=⟨_,Tryz.underlying59,rfl⟩
 flat:=fun h=>absurd h (by decide)
theorem Xi:TI.ok Tryz.prog 73 Zq where
 info:=⟨Tryz.t73,by kernel_rfl,rfl,rfl,_,rfl,rfl⟩
 kind:=⟨_,Tryz.underlying73,⟨_,rfl,by rfl,by simp⟩⟩
 flat:=fun h=>absurd h (by decide)
theorem Xc:TI.ok Tryz.prog 69 Zj where
 info:=⟨Tryz.t69,by kernel_rfl,rfl,rfl,_,rfl,rfl⟩
 kind:=⟨_,Tryz.underlying69,rfl⟩
 flat:=fun h=>absurd h (by decide)
theorem VM:TI.ok Tryz.prog 216 Vv where
 info:=⟨Tryz.t216,by kernel_rfl,rfl,rfl,_,rfl,rfl⟩
 kind:=⟨_,Tryz.underlying216,rfl⟩
 flat:=fun h=>absurd h (by decide)
theorem Wo:TI.ok Tryz.prog 138 VG where
 info:=⟨Tryz.t138,by kernel_rfl,rfl,rfl,_,rfl,rfl⟩
 kind:=⟨_,Tryz.underlying138,rfl⟩
 flat:=fun h=>absurd h (by decide)
theorem X8:TI.ok Tryz.prog 65 ZJ where
 info:=⟨Tryz.t65,by kernel_rfl,rfl,rfl,_,rfl,rfl⟩
 kind:=⟨_,Tryz.underlying65,rfl⟩
 flat:=fun h=>absurd h (by decide)
theorem Uj:TI.ok Tryz.prog 254 UR where
 info:=⟨Tryz.t254,by kernel_rfl,rfl,rfl,_,rfl,rfl⟩
 kind:=⟨_,Tryz.underlying254,rfl⟩
 flat:=fun h=>absurd h (by decide)
theorem TB:TI.ok Tryz.prog 288 TN where
 info:=⟨Tryz.t288,by kernel_rfl,rfl,rfl,_,rfl,rfl⟩
 kind:=⟨_,Tryz.underlying288,⟨_,rfl,by rfl,by simp⟩⟩
 flat:=fun h=>absurd h (by decide)
theorem Wa:TI.ok Tryz.prog 134 TH where
 info:=⟨Tryz.t134,by kernel_rfl,rfl,rfl,_,rfl,rfl⟩
 kind:=⟨_,Tryz.underlying134,rfl⟩
 flat:=fun h=>absurd h (by decide)
theorem VI:TI.ok Tryz.prog 231 UM where
 info:=⟨Tryz.t231,by kernel_rfl,rfl,rfl,_,rfl,rfl⟩
 kind:=⟨_,Tryz.underlying231,⟨(by intro fs h;cases h),(by intro n e h;cases h)⟩⟩
 flat:=fun h=>absurd h (by decide)
theorem Wh:TI.ok Tryz.prog 307 Up where
 info:=⟨Tryz.t307,by kernel_rfl,rfl,rfl,_,rfl,rfl⟩
 kind:=⟨_,Tryz.underlying307,rfl⟩
 flat:=fun h=>absurd h (by decide)
theorem XZ:TI.ok Tryz.prog 57 Zu where
 info:=⟨Tryz.t57,by kernel_rfl,rfl,rfl,_,rfl,rfl⟩
 kind:=⟨_,Tryz.underlying57,rfl⟩
 flat:=fun h=>absurd h (by decide)
theorem Vj:TI.ok Tryz.prog 286 TE where
 info:=⟨Tryz.t286,by kernel_rfl,rfl,rfl,_,rfl,rfl⟩
 kind:=⟨_,Tryz.underlying286,rfl⟩
 flat:=fun h=>absurd h (by decide)
theorem XL:TI.ok Tryz.prog 84 ZK where
 info:=⟨Tryz.t84,by kernel_rfl,rfl,rfl,_,rfl,rfl⟩
 kind:=⟨_,Tryz.underlying84,rfl⟩
 flat:=fun h=>absurd h (by decide)
theorem To:TI.ok Tryz.prog 194 Ta where
 info:=⟨Tryz.t194,by kernel_rfl,rfl,rfl,_,rfl,rfl⟩
 kind:=⟨_,Tryz.underlying194,⟨(by intro fs h;cases h),(by intro n e h;cases h)⟩⟩
 flat:=fun h=>absurd h (by decide)
theorem V2:TI.ok Tryz.prog 167 US where
 info:=⟨Tryz.t167,by kernel_rfl,rfl,rfl,_,rfl,rfl⟩
 kind:=⟨_,Tryz.underlying167,⟨_,rfl,by rfl,by simp⟩⟩
 flat:=fun _=>⟨by kernel_rfl,by kernel_rfl⟩
theorem Tz:TI.ok Tryz.prog 252 UA where
 info:=⟨Tryz.t252,by kernel_rfl,rfl,rfl,_,rfl,rfl⟩
 kind:=⟨_,Tryz.underlying252,⟨(by intro fs h;cases h),(by intro n e h;cases h)⟩⟩
 flat:=fun h=>absurd h (by decide)
theorem Tn:TI.ok Tryz.prog 282 VA where
 info:=⟨Tryz.t282,by kernel_rfl,rfl,rfl,_,rfl,rfl⟩
 kind:=⟨_,Tryz.underlying282,⟨(by intro fs h;cases h),(by intro n e h;cases h)⟩⟩
 flat:=fun h=>absurd h (by decide)
theorem VU:TI.ok Tryz.prog 378 UD where
 info:=⟨Tryz.t378,by kernel_rfl,rfl,rfl,_,rfl,rfl⟩
 kind:=⟨_,Tryz.underlying378,⟨_,rfl,by rfl,by simp⟩⟩
 flat:=fun _=>⟨by kernel_rfl,by kernel_rfl⟩
theorem tb4:TI.ok Tryz.prog 4 k4 where
 info:=⟨Tryz.t4,by kernel_rfl,rfl,rfl,_,rfl,rfl⟩
 kind:=⟨_,Tryz.underlying4,rfl⟩
 flat:=fun h=>absurd h (by decide)
theorem VL:TI.ok Tryz.prog 163 VE where
 info:=⟨Tryz.t163,by kernel_rfl,rfl,rfl,_,rfl,rfl⟩
 kind:=⟨_,Tryz.underlying163,⟨(by intro fs h;cases h),(by intro n e h;cases h)⟩⟩
 flat:=fun h=>absurd h (by decide)
theorem Vh:TI.ok Tryz.prog 300 Tw where
 info:=⟨Tryz.t300,by kernel_rfl,rfl,rfl,_,rfl,rfl⟩
 kind:=⟨_,Tryz.underlying300,rfl⟩
 flat:=fun h=>absurd h (by decide)
theorem UP:TI.ok Tryz.prog 303 V1 where
 info:=⟨Tryz.t303,by kernel_rfl,rfl,rfl,_,rfl,rfl⟩
 kind:=⟨_,Tryz.underlying303,⟨(by intro fs h;cases h),(by intro n e h;cases h)⟩⟩
 flat:=fun h=>absurd h (by decide)
theorem UB:TI.ok Tryz.prog 272 UU where
 info:=⟨Tryz.t272,by kernel_rfl,rfl,rfl,_,rfl,rfl⟩
 kind:=⟨_,Tryz.underlying272,rfl⟩
 flat:=fun h=>absurd h (by decide)
theorem UW:TI.ok Tryz.prog 304 TO where
 info:=⟨Tryz.t304,by kernel_rfl,rfl,rfl,_,rfl,rfl⟩
 kind:=⟨_,Tryz.underlying304,rfl⟩
 flat:=fun h=>absurd h (by decide)
theorem Tv:TI.ok Tryz.prog 359 VD where
 info:=⟨Tryz.t359,by kernel_rfl,rfl,rfl,_,rfl,rfl⟩
 kind:=⟨_,Tryz.underlying359,⟨(by intro fs h;cases h),(by intro n e h;cases h)⟩⟩
 flat:=fun h=>absurd h (by decide)
theorem Xs:TI.ok Tryz.prog 99 Zl where
 info:=⟨Tryz.t99,by kernel_rfl,rfl,rfl,_,rfl,rfl⟩
 kind:=⟨_,Tryz.underlying99,⟨(by intro fs h;cases h),(by intro n e h;cases h)⟩⟩
 flat:=fun h=>absurd h (by decide)
theorem Vn:TI.ok Tryz.prog 160 Vp where
 info:=⟨Tryz.t160,by kernel_rfl,rfl,rfl,_,rfl,rfl⟩
 kind:=⟨_,Tryz.underlying160,⟨(by intro fs h;cases h),(by intro n e h;cases h)⟩⟩
 flat:=fun h=>absurd h (by decide)
theorem Te:TI.ok Tryz.prog 197 V6 where
 info:=⟨Tryz.t197,by kernel_rfl,rfl,rfl,_,rfl,rfl⟩
 kind:=⟨_,Tryz.underlying197,⟨(by intro fs h;cases h),(by intro n e h;cases h)⟩⟩
 flat:=fun h=>absurd h (by decide)
theorem VK:TI.ok Tryz.prog 290 TF where
 info:=⟨Tryz.t290,by kernel_rfl,rfl,rfl,_,rfl,rfl⟩
 kind:=⟨_,Tryz.underlying290,⟨(by intro fs h;cases h),(by intro n e h;cases h)⟩⟩
 flat:=fun h=>absurd h (by decide)
theorem Wc:TI.ok Tryz.prog 315 UG where
 info:=⟨Tryz.t315,by kernel_rfl,rfl,rfl,_,rfl,rfl⟩
 kind:=⟨_,Tryz.underlying315,⟨(by intro fs h;cases h),(by intro n e h;cases h)⟩⟩
 flat:=fun h=>absurd h (by decide)
theorem UO:TI.ok Tryz.prog 367 VN where
 info:=⟨Tryz.t367,by kernel_rfl,rfl,rfl,_,rfl,rfl⟩
 kind:=⟨_,Tryz.underlying367,⟨(by intro fs h;cases h),(by intro n e h;cases h)⟩⟩
 flat:=fun h=>absurd h (by decide)
theorem Ty:TI.ok Tryz.prog 383 Uy where
 info:=⟨Tryz.t383,by kernel_rfl,rfl,rfl,_,rfl,rfl⟩
 kind:=⟨_,Tryz.underlying383,⟨(by intro fs h;cases h),(by intro n e h;cases h)⟩⟩
 flat:=fun h=>absurd h (by decide)
theorem VW:TI.ok Tryz.prog 207 TJ where
 info:=⟨Tryz.t207,by kernel_rfl,rfl,rfl,_,rfl,rfl⟩
 kind:=⟨_,Tryz.underlying207,⟨(by intro fs h;cases h),(by intro n e h;cases h)⟩⟩
 flat:=fun h=>absurd h (by decide)
theorem Ve:TI.ok Tryz.prog 338 VV where
 info:=⟨Tryz.t338,by kernel_rfl,rfl,rfl,_,rfl,rfl⟩
 kind:=⟨_,Tryz.underlying338,rfl⟩
 flat:=fun h=>absurd h (by decide)
theorem Ua:TI.ok Tryz.prog 379 Uo where
 info:=⟨Tryz.t379,by kernel_rfl,rfl,rfl,_,rfl,rfl⟩
 kind:=⟨_,Tryz.underlying379,rfl⟩
 flat:=fun h=>absurd h (by decide)
theorem eP:gZ Tryz.prog tb:=N6 ⟨tb3,tb9,Xx,Xk,tb2,Xn,XI,X9,XX,Vk,XT,XD,Yj,Xw,X7,U9,tb5,Yf,Xp,XM,Xj,X5,Xq,XP,XN,Yi,Xv,X1,Um,XG,Xi,Xc,VM,Wo,X8,Uj,TB,Wa,VI,Wh,XZ,Vj,XL,To,V2,Tz,Tn,VU,tb4,VL,Vh,UP,UB,UW,Tv,Xs,Vn,Te,VK,Wc,UO,Ty,VW,Ve,Ua,trivial⟩
theorem mixed:Tryz.prog.follows .mixedOrders=true:=by kernel_rfl
theorem bd8:dH Tryz.prog 8:=⟨_,Tryz.func8,rfl,rfl⟩
theorem Ti:dH Tryz.prog 10:=⟨_,Tryz.func10,rfl,rfl⟩
theorem Xt:dH Tryz.prog 11:=⟨_,Tryz.func11,rfl,rfl⟩
theorem U6:dH Tryz.prog 12:=⟨_,Tryz.func12,rfl,rfl⟩
theorem X3:dH Tryz.prog 13:=⟨_,Tryz.func13,rfl,rfl⟩
theorem X6:dH Tryz.prog 14:=⟨_,Tryz.func14,rfl,rfl⟩
theorem Xh:dH Tryz.prog 15:=⟨_,Tryz.func15,rfl,rfl⟩
theorem Yd:dH Tryz.prog 20:=⟨_,Tryz.func20,rfl,rfl⟩
theorem Vc:dH Tryz.prog 23:=⟨_,Tryz.func23,rfl,rfl⟩
theorem Uv:dH Tryz.prog 24:=⟨_,Tryz.func24,rfl,rfl⟩
theorem Xd:dH Tryz.prog 25:=⟨_,Tryz.func25,rfl,rfl⟩
theorem XO:dH Tryz.prog 26:=⟨_,Tryz.func26,rfl,rfl⟩
theorem XU:dH Tryz.prog 28:=⟨_,Tryz.func28,rfl,rfl⟩
theorem Md:dH Tryz.prog 33:=⟨_,Tryz.func33,rfl,rfl⟩
theorem R4:dH Tryz.prog 34:=⟨_,Tryz.func34,rfl,rfl⟩
theorem Yg:dH Tryz.prog 35:=⟨_,Tryz.func35,rfl,rfl⟩
theorem O5:dH Tryz.prog 36:=⟨_,Tryz.func36,rfl,rfl⟩
theorem Yb:dH Tryz.prog 37:=⟨_,Tryz.func37,rfl,rfl⟩
theorem Sn:dH Tryz.prog 38:=⟨_,Tryz.func38,rfl,rfl⟩
theorem UC:dH Tryz.prog 39:=⟨_,Tryz.func39,rfl,rfl⟩
theorem VP:dH Tryz.prog 40:=⟨_,Tryz.func40,rfl,rfl⟩
theorem Ym:dH Tryz.prog 41:=⟨_,Tryz.func41,rfl,rfl⟩
theorem Ya:dH Tryz.prog 42:=⟨_,Tryz.func42,rfl,rfl⟩
theorem EF:dH Tryz.prog 43:=⟨_,Tryz.func43,rfl,rfl⟩
theorem Th:dH Tryz.prog 44:=⟨_,Tryz.func44,rfl,rfl⟩
theorem Xl:dH Tryz.prog 45:=⟨_,Tryz.func45,rfl,rfl⟩
theorem TC:dH Tryz.prog 46:=⟨_,Tryz.func46,rfl,rfl⟩
theorem XV:dH Tryz.prog 47:=⟨_,Tryz.func47,rfl,rfl⟩
theorem Xb:dH Tryz.prog 48:=⟨_,Tryz.func48,rfl,rfl⟩
theorem Gq:dH Tryz.prog 49:=⟨_,Tryz.func49,rfl,rfl⟩
theorem Xo:dH Tryz.prog 50:=⟨_,Tryz.func50,rfl,rfl⟩
theorem V5:dH Tryz.prog 51:=⟨_,Tryz.func51,rfl,rfl⟩
theorem Xe:dH Tryz.prog 52:=⟨_,Tryz.func52,rfl,rfl⟩
theorem Yc:dH Tryz.prog 53:=⟨_,Tryz.func53,rfl,rfl⟩
theorem RU:dH Tryz.prog 55:=⟨_,Tryz.func55,rfl,rfl⟩
theorem Ms:dH Tryz.prog 58:=⟨_,Tryz.func58,rfl,rfl⟩
theorem X2:dH Tryz.prog 59:=⟨_,Tryz.func59,rfl,rfl⟩
theorem Yk:dH Tryz.prog 61:=⟨_,Tryz.func61,rfl,rfl⟩
theorem C9:dH Tryz.prog 62:=⟨_,Tryz.func62,rfl,rfl⟩
theorem ON:dH Tryz.prog 63:=⟨_,Tryz.func63,rfl,rfl⟩
theorem XJ:dH Tryz.prog 64:=⟨_,Tryz.func64,rfl,rfl⟩
theorem Ye:dH Tryz.prog 65:=⟨_,Tryz.func65,rfl,rfl⟩
theorem Xm:dH Tryz.prog 66:=⟨_,Tryz.func66,rfl,rfl⟩
theorem vQ:dH Tryz.prog 67:=⟨_,Tryz.func67,rfl,rfl⟩
theorem Sj:dH Tryz.prog 68:=⟨_,Tryz.func68,rfl,rfl⟩
theorem TS:dH Tryz.prog 69:=⟨_,Tryz.func69,rfl,rfl⟩
theorem X4:dH Tryz.prog 70:=⟨_,Tryz.func70,rfl,rfl⟩
theorem Uf:dH Tryz.prog 71:=⟨_,Tryz.func71,rfl,rfl⟩
theorem U4:dH Tryz.prog 72:=⟨_,Tryz.func72,rfl,rfl⟩
theorem Xf:dH Tryz.prog 73:=⟨_,Tryz.func73,rfl,rfl⟩
theorem Rn:dH Tryz.prog 74:=⟨_,Tryz.func74,rfl,rfl⟩
theorem Xy:dH Tryz.prog 75:=⟨_,Tryz.func75,rfl,rfl⟩
theorem Xg:dH Tryz.prog 76:=⟨_,Tryz.func76,rfl,rfl⟩
theorem XQ:dH Tryz.prog 77:=⟨_,Tryz.func77,rfl,rfl⟩
theorem XA:dH Tryz.prog 78:=⟨_,Tryz.func78,rfl,rfl⟩
theorem Yl:dH Tryz.prog 79:=⟨_,Tryz.func79,rfl,rfl⟩
theorem XR:dH Tryz.prog 81:=⟨_,Tryz.func81,rfl,rfl⟩
theorem Vq:dH Tryz.prog 86:=⟨_,Tryz.func86,rfl,rfl⟩
theorem TT:dH Tryz.prog 87:=⟨_,Tryz.func87,rfl,rfl⟩
theorem Tr:dH Tryz.prog 88:=⟨_,Tryz.func88,rfl,rfl⟩
theorem R2:dH Tryz.prog 89:=⟨_,Tryz.func89,rfl,rfl⟩
theorem Rq:dH Tryz.prog 90:=⟨_,Tryz.func90,rfl,rfl⟩
theorem XC:dH Tryz.prog 91:=⟨_,Tryz.func91,rfl,rfl⟩
theorem UF:dH Tryz.prog 92:=⟨_,Tryz.func92,rfl,rfl⟩
theorem Mn:dH Tryz.prog 93:=⟨_,Tryz.func93,rfl,rfl⟩
theorem Xr:dH Tryz.prog 94:=⟨_,Tryz.func94,rfl,rfl⟩
theorem XF:dH Tryz.prog 95:=⟨_,Tryz.func95,rfl,rfl⟩
theorem V4:dH Tryz.prog 96:=⟨_,Tryz.func96,rfl,rfl⟩
theorem Vm:dH Tryz.prog 97:=⟨_,Tryz.func97,rfl,rfl⟩
theorem Vx:dH Tryz.prog 98:=⟨_,Tryz.func98,rfl,rfl⟩
theorem Ma:dH Tryz.prog 99:=⟨_,Tryz.func99,rfl,rfl⟩
theorem Mp:dH Tryz.prog 100:=⟨_,Tryz.func100,rfl,rfl⟩
theorem I6:dH Tryz.prog 101:=⟨_,Tryz.func101,rfl,rfl⟩
theorem T6:dH Tryz.prog 102:=⟨_,Tryz.func102,rfl,rfl⟩
theorem wB:dH Tryz.prog 103:=⟨_,Tryz.func103,rfl,rfl⟩
theorem Va:dH Tryz.prog 104:=⟨_,Tryz.func104,rfl,rfl⟩
theorem QC:dH Tryz.prog 105:=⟨_,Tryz.func105,rfl,rfl⟩
theorem Qw:dH Tryz.prog 106:=⟨_,Tryz.func106,rfl,rfl⟩
theorem TM:dH Tryz.prog 107:=⟨_,Tryz.func107,rfl,rfl⟩
theorem Ue:dH Tryz.prog 108:=⟨_,Tryz.func108,rfl,rfl⟩
theorem UI:dH Tryz.prog 109:=⟨_,Tryz.func109,rfl,rfl⟩
theorem Qu:dH Tryz.prog 110:=⟨_,Tryz.func110,rfl,rfl⟩
theorem Uw:dH Tryz.prog 111:=⟨_,Tryz.func111,rfl,rfl⟩
theorem Qm:dH Tryz.prog 112:=⟨_,Tryz.func112,rfl,rfl⟩
theorem N7:dH Tryz.prog 113:=⟨_,Tryz.func113,rfl,rfl⟩
theorem DA:dH Tryz.prog 114:=⟨_,Tryz.func114,rfl,rfl⟩
theorem Uh:dH Tryz.prog 115:=⟨_,Tryz.func115,rfl,rfl⟩
theorem ug:dH Tryz.prog 117:=⟨_,Tryz.func117,rfl,rfl⟩
theorem Vb:dH Tryz.prog 118:=⟨_,Tryz.func118,rfl,rfl⟩
theorem Uq:dH Tryz.prog 119:=⟨_,Tryz.func119,rfl,rfl⟩
theorem QG:dH Tryz.prog 120:=⟨_,Tryz.func120,rfl,rfl⟩
theorem Qd:dH Tryz.prog 121:=⟨_,Tryz.func121,rfl,rfl⟩
theorem Tq:dH Tryz.prog 122:=⟨_,Tryz.func122,rfl,rfl⟩
theorem Tt:dH Tryz.prog 123:=⟨_,Tryz.func123,rfl,rfl⟩
theorem QU:dH Tryz.prog 124:=⟨_,Tryz.func124,rfl,rfl⟩
theorem TY:dH Tryz.prog 125:=⟨_,Tryz.func125,rfl,rfl⟩
theorem Wi:dH Tryz.prog 126:=⟨_,Tryz.func126,rfl,rfl⟩
theorem Q0:dH Tryz.prog 127:=⟨_,Tryz.func127,rfl,rfl⟩
theorem Qx:dH Tryz.prog 128:=⟨_,Tryz.func128,rfl,rfl⟩
theorem TA:dH Tryz.prog 129:=⟨_,Tryz.func129,rfl,rfl⟩
theorem uu:dH Tryz.prog 130:=⟨_,Tryz.func130,rfl,rfl⟩
theorem Us:dH Tryz.prog 131:=⟨_,Tryz.func131,rfl,rfl⟩
theorem Vs:dH Tryz.prog 132:=⟨_,Tryz.func132,rfl,rfl⟩
theorem Ut:dH Tryz.prog 133:=⟨_,Tryz.func133,rfl,rfl⟩
theorem QV:dH Tryz.prog 134:=⟨_,Tryz.func134,rfl,rfl⟩
theorem VO:dH Tryz.prog 135:=⟨_,Tryz.func135,rfl,rfl⟩
theorem Vr:dH Tryz.prog 136:=⟨_,Tryz.func136,rfl,rfl⟩
theorem wT:dH Tryz.prog 137:=⟨_,Tryz.func137,rfl,rfl⟩
theorem Qg:dH Tryz.prog 138:=⟨_,Tryz.func138,rfl,rfl⟩
theorem TW:dH Tryz.prog 146:=⟨_,Tryz.func146,rfl,rfl⟩
theorem VC:dH Tryz.prog 147:=⟨_,Tryz.func147,rfl,rfl⟩
theorem L9:dH Tryz.prog 148:=⟨_,Tryz.func148,rfl,rfl⟩
theorem Mx:dH Tryz.prog 149:=⟨_,Tryz.func149,rfl,rfl⟩
theorem QR:dH Tryz.prog 150:=⟨_,Tryz.func150,rfl,rfl⟩
theorem V9:dH Tryz.prog 155:=⟨_,Tryz.func155,rfl,rfl⟩
theorem Ud:dH Tryz.prog 156:=⟨_,Tryz.func156,rfl,rfl⟩
theorem V3:dH Tryz.prog 157:=⟨_,Tryz.func157,rfl,rfl⟩
theorem VZ:dH Tryz.prog 158:=⟨_,Tryz.func158,rfl,rfl⟩
theorem Wg:dH Tryz.prog 159:=⟨_,Tryz.func159,rfl,rfl⟩
theorem Tl:dH Tryz.prog 160:=⟨_,Tryz.func160,rfl,rfl⟩
theorem Qf:dH Tryz.prog 161:=⟨_,Tryz.func161,rfl,rfl⟩
theorem FB:dH Tryz.prog 162:=⟨_,Tryz.func162,rfl,rfl⟩
theorem Qq:dH Tryz.prog 163:=⟨_,Tryz.func163,rfl,rfl⟩
theorem M0:dH Tryz.prog 164:=⟨_,Tryz.func164,rfl,rfl⟩
theorem NW:dH Tryz.prog 165:=⟨_,Tryz.func165,rfl,rfl⟩
theorem VH:dH Tryz.prog 166:=⟨_,Tryz.func166,rfl,rfl⟩
theorem DU:dH Tryz.prog 167:=⟨_,Tryz.func167,rfl,rfl⟩
theorem VB:dH Tryz.prog 168:=⟨_,Tryz.func168,rfl,rfl⟩
theorem N9:dH Tryz.prog 169:=⟨_,Tryz.func169,rfl,rfl⟩
theorem QH:dH Tryz.prog 170:=⟨_,Tryz.func170,rfl,rfl⟩
theorem VR:dH Tryz.prog 171:=⟨_,Tryz.func171,rfl,rfl⟩
theorem Ur:dH Tryz.prog 172:=⟨_,Tryz.func172,rfl,rfl⟩
theorem M6:dH Tryz.prog 173:=⟨_,Tryz.func173,rfl,rfl⟩
theorem QA:dH Tryz.prog 174:=⟨_,Tryz.func174,rfl,rfl⟩
theorem TX:dH Tryz.prog 175:=⟨_,Tryz.func175,rfl,rfl⟩
theorem T9:dH Tryz.prog 176:=⟨_,Tryz.func176,rfl,rfl⟩
theorem VX:dH Tryz.prog 177:=⟨_,Tryz.func177,rfl,rfl⟩
theorem T8:dH Tryz.prog 178:=⟨_,Tryz.func178,rfl,rfl⟩
theorem Qa:dH Tryz.prog 179:=⟨_,Tryz.func179,rfl,rfl⟩
theorem UK:dH Tryz.prog 180:=⟨_,Tryz.func180,rfl,rfl⟩
theorem V0:dH Tryz.prog 181:=⟨_,Tryz.func181,rfl,rfl⟩
theorem U3:dH Tryz.prog 182:=⟨_,Tryz.func182,rfl,rfl⟩
theorem QE:dH Tryz.prog 183:=⟨_,Tryz.func183,rfl,rfl⟩
theorem N5:dH Tryz.prog 184:=⟨_,Tryz.func184,rfl,rfl⟩
theorem I9:dH Tryz.prog 185:=⟨_,Tryz.func185,rfl,rfl⟩
theorem U1:dH Tryz.prog 186:=⟨_,Tryz.func186,rfl,rfl⟩
theorem Wk:dH Tryz.prog 187:=⟨_,Tryz.func187,rfl,rfl⟩
theorem QN:dH Tryz.prog 188:=⟨_,Tryz.func188,rfl,rfl⟩
theorem Q1:dH Tryz.prog 189:=⟨_,Tryz.func189,rfl,rfl⟩
theorem Lj:dH Tryz.prog 190:=⟨_,Tryz.func190,rfl,rfl⟩
theorem QT:dH Tryz.prog 206:=⟨_,Tryz.func206,rfl,rfl⟩
theorem QP:dH Tryz.prog 207:=⟨_,Tryz.func207,rfl,rfl⟩
theorem Ts:dH Tryz.prog 210:=⟨_,Tryz.func210,rfl,rfl⟩
theorem Ux:dH Tryz.prog 211:=⟨_,Tryz.func211,rfl,rfl⟩
theorem Wf:dH Tryz.prog 212:=⟨_,Tryz.func212,rfl,rfl⟩
theorem Ny:dH Tryz.prog 215:=⟨_,Tryz.func215,rfl,rfl⟩
theorem Tg:dH Tryz.prog 216:=⟨_,Tryz.func216,rfl,rfl⟩
theorem Ql:dH Tryz.prog 217:=⟨_,Tryz.func217,rfl,rfl⟩
theorem QZ:dH Tryz.prog 218:=⟨_,Tryz.func218,rfl,rfl⟩
theorem S9:dH Tryz.prog 219:=⟨_,Tryz.func219,rfl,rfl⟩
theorem T3:dH Tryz.prog 221:=⟨_,Tryz.func221,rfl,rfl⟩
theorem Vy:dH Tryz.prog 222:=⟨_,Tryz.func222,rfl,rfl⟩
theorem QJ:dH Tryz.prog 223:=⟨_,Tryz.func223,rfl,rfl⟩
theorem Qy:dH Tryz.prog 224:=⟨_,Tryz.func224,rfl,rfl⟩
theorem UL:dH Tryz.prog 226:=⟨_,Tryz.func226,rfl,rfl⟩
theorem Qk:dH Tryz.prog 227:=⟨_,Tryz.func227,rfl,rfl⟩
theorem Qb:dH Tryz.prog 228:=⟨_,Tryz.func228,rfl,rfl⟩
theorem TG:dH Tryz.prog 229:=⟨_,Tryz.func229,rfl,rfl⟩
theorem Qz:dH Tryz.prog 230:=⟨_,Tryz.func230,rfl,rfl⟩
theorem VF:dH Tryz.prog 231:=⟨_,Tryz.func231,rfl,rfl⟩
theorem UJ:dH Tryz.prog 232:=⟨_,Tryz.func232,rfl,rfl⟩
theorem TZ:dH Tryz.prog 233:=⟨_,Tryz.func233,rfl,rfl⟩
theorem Tk:dH Tryz.prog 234:=⟨_,Tryz.func234,rfl,rfl⟩
theorem Vu:dH Tryz.prog 235:=⟨_,Tryz.func235,rfl,rfl⟩
theorem MR:dH Tryz.prog 236:=⟨_,Tryz.func236,rfl,rfl⟩
theorem P7:dH Tryz.prog 237:=⟨_,Tryz.func237,rfl,rfl⟩
theorem Wj:dH Tryz.prog 238:=⟨_,Tryz.func238,rfl,rfl⟩
theorem QD:dH Tryz.prog 239:=⟨_,Tryz.func239,rfl,rfl⟩
theorem Qt:dH Tryz.prog 240:=⟨_,Tryz.func240,rfl,rfl⟩
theorem Tp:dH Tryz.prog 241:=⟨_,Tryz.func241,rfl,rfl⟩
theorem Tj:dH Tryz.prog 242:=⟨_,Tryz.func242,rfl,rfl⟩
theorem Ik:dH Tryz.prog 243:=⟨_,Tryz.func243,rfl,rfl⟩
theorem Wl:dH Tryz.prog 244:=⟨_,Tryz.func244,rfl,rfl⟩
theorem VQ:dH Tryz.prog 245:=⟨_,Tryz.func245,rfl,rfl⟩
theorem Vw:dH Tryz.prog 246:=⟨_,Tryz.func246,rfl,rfl⟩
theorem AU:dH Tryz.prog 259:=⟨_,Tryz.func259,rfl,rfl⟩
theorem Qs:dH Tryz.prog 261:=⟨_,Tryz.func261,rfl,rfl⟩
theorem Qo:dH Tryz.prog 265:=⟨_,Tryz.func265,rfl,rfl⟩
theorem Qe:dH Tryz.prog 266:=⟨_,Tryz.func266,rfl,rfl⟩
theorem Ni:dH Tryz.prog 267:=⟨_,Tryz.func267,rfl,rfl⟩
theorem UT:dH Tryz.prog 268:=⟨_,Tryz.func268,rfl,rfl⟩
theorem VY:dH Tryz.prog 270:=⟨_,Tryz.func270,rfl,rfl⟩
theorem P9:dH Tryz.prog 271:=⟨_,Tryz.func271,rfl,rfl⟩
theorem UZ:dH Tryz.prog 272:=⟨_,Tryz.func272,rfl,rfl⟩
theorem QS:dH Tryz.prog 273:=⟨_,Tryz.func273,rfl,rfl⟩
theorem Vi:dH Tryz.prog 274:=⟨_,Tryz.func274,rfl,rfl⟩
theorem Vz:dH Tryz.prog 275:=⟨_,Tryz.func275,rfl,rfl⟩
theorem Vo:dH Tryz.prog 276:=⟨_,Tryz.func276,rfl,rfl⟩
theorem Qp:dH Tryz.prog 277:=⟨_,Tryz.func277,rfl,rfl⟩
theorem Qh:dH Tryz.prog 278:=⟨_,Tryz.func278,rfl,rfl⟩
theorem Uk:dH Tryz.prog 279:=⟨_,Tryz.func279,rfl,rfl⟩
theorem Uu:dH Tryz.prog 280:=⟨_,Tryz.func280,rfl,rfl⟩
theorem Ui:dH Tryz.prog 281:=⟨_,Tryz.func281,rfl,rfl⟩
theorem Q2:dH Tryz.prog 296:=⟨_,Tryz.func296,rfl,rfl⟩
theorem H3:dH Tryz.prog 297:=⟨_,Tryz.func297,rfl,rfl⟩
theorem Vg:dH Tryz.prog 298:=⟨_,Tryz.func298,rfl,rfl⟩
theorem Vd:dH Tryz.prog 299:=⟨_,Tryz.func299,rfl,rfl⟩
theorem Tf:dH Tryz.prog 300:=⟨_,Tryz.func300,rfl,rfl⟩
theorem Tm:dH Tryz.prog 301:=⟨_,Tryz.func301,rfl,rfl⟩
theorem Tx:dH Tryz.prog 302:=⟨_,Tryz.func302,rfl,rfl⟩
theorem V8:dH Tryz.prog 303:=⟨_,Tryz.func303,rfl,rfl⟩
theorem UQ:dH Tryz.prog 316:=⟨_,Tryz.func316,rfl,rfl⟩
theorem Wm:dH Tryz.prog 317:=⟨_,Tryz.func317,rfl,rfl⟩
theorem Td:dH Tryz.prog 318:=⟨_,Tryz.func318,rfl,rfl⟩
theorem We:dH Tryz.prog 319:=⟨_,Tryz.func319,rfl,rfl⟩
theorem T5:dH Tryz.prog 329:=⟨_,Tryz.func329,rfl,rfl⟩
end Go.Proofs.YthbnddgjkonkdaaGreatDoor
