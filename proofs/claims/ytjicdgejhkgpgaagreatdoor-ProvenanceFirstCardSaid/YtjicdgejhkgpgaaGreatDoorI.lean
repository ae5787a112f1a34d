/-
  What the program table says of each type.
-/
import Derived.Test.YtjicdgejhkgpgaaGreatDoorProg
import Derived.Test.YtjicdgejhkgpgaaGreatDoorYa
import Derived.KernelRfl
set_option linter.all false
namespace Go.Proofs.YtjicdgejhkgpgaaGreatDoor
open Go.En
instance iu0:UT Tryz.prog 0 Tryz.t0.desc:=⟨Tryz.underlying0⟩
instance ii0:TI Tryz.prog 0 (Value.tuple #[]) 1 0:=⟨by kernel_rfl⟩
instance iu1:UT Tryz.prog 1 Tryz.t1.desc:=⟨Tryz.underlying1⟩
instance ii1:TI Tryz.prog 1 Value.nilFunc 1 8:=⟨by kernel_rfl⟩
instance iu2:UT Tryz.prog 2 (TypeDesc.int IntKind.i64):=⟨Tryz.underlying2⟩
instance ii2:TI Tryz.prog 2 (Value.int IntKind.i64 0) 1 8:=⟨by kernel_rfl⟩
instance iu3:UT Tryz.prog 3 (TypeDesc.int IntKind.i64):=⟨Tryz.underlying3⟩
instance ii3:TI Tryz.prog 3 (Value.int IntKind.i64 0) 1 8:=⟨by kernel_rfl⟩
instance iu4:UT Tryz.prog 4 (TypeDesc.bool):=⟨Tryz.underlying4⟩
instance ii4:TI Tryz.prog 4 (Value.bool false) 1 1:=⟨by kernel_rfl⟩
instance iu5:UT Tryz.prog 5 (TypeDesc.int IntKind.u8):=⟨Tryz.underlying5⟩
instance ii5:TI Tryz.prog 5 (Value.int IntKind.u8 0) 1 1:=⟨by kernel_rfl⟩
instance iu6:UT Tryz.prog 6 (TypeDesc.int IntKind.u8):=⟨Tryz.underlying6⟩
instance ii6:TI Tryz.prog 6 (Value.int IntKind.u8 0) 1 1:=⟨by kernel_rfl⟩
instance iu7:UT Tryz.prog 7 Tryz.t7.desc:=⟨Tryz.underlying7⟩
instance ii7:TI Tryz.prog 7 (Value.agg #[Value.int IntKind.i64 0,Value.int IntKind.i64 0,Value.bool false,Value.int IntKind.u8 0]) 4 24:=⟨by kernel_rfl⟩
instance ib7:BT Tryz.prog 7 [(0,1),(1,1),(2,1),(3,1)]:=⟨⟨_,Tryz.underlying7,by kernel_rfl⟩⟩
instance is7_0:SF Tryz.prog 7 0 0 2:=⟨⟨_,_,Tryz.underlying7,rfl,rfl,rfl⟩⟩
instance is7_1:SF Tryz.prog 7 1 1 3:=⟨⟨_,_,Tryz.underlying7,rfl,rfl,rfl⟩⟩
instance is7_2:SF Tryz.prog 7 2 2 4:=⟨⟨_,_,Tryz.underlying7,rfl,rfl,rfl⟩⟩
instance is7_3:SF Tryz.prog 7 3 3 6:=⟨⟨_,_,Tryz.underlying7,rfl,rfl,rfl⟩⟩
instance iu8:UT Tryz.prog 8 Tryz.t7.desc:=⟨Tryz.underlying8⟩
instance ii8:TI Tryz.prog 8 (Value.agg #[Value.int IntKind.i64 0,Value.int IntKind.i64 0,Value.bool false,Value.int IntKind.u8 0]) 4 24:=⟨by kernel_rfl⟩
instance ib8:BT Tryz.prog 8 [(0,1),(1,1),(2,1),(3,1)]:=⟨⟨_,Tryz.underlying8,by kernel_rfl⟩⟩
instance is8_0:SF Tryz.prog 8 0 0 2:=⟨⟨_,_,Tryz.underlying8,rfl,rfl,rfl⟩⟩
instance is8_1:SF Tryz.prog 8 1 1 3:=⟨⟨_,_,Tryz.underlying8,rfl,rfl,rfl⟩⟩
instance is8_2:SF Tryz.prog 8 2 2 4:=⟨⟨_,_,Tryz.underlying8,rfl,rfl,rfl⟩⟩
instance is8_3:SF Tryz.prog 8 3 3 6:=⟨⟨_,_,Tryz.underlying8,rfl,rfl,rfl⟩⟩
instance iu9:UT Tryz.prog 9 (TypeDesc.string):=⟨Tryz.underlying9⟩
instance ii9:TI Tryz.prog 9 (Value.string { data:=#[] }) 1 16:=⟨by kernel_rfl⟩
instance iu10:UT Tryz.prog 10 (TypeDesc.string):=⟨Tryz.underlying10⟩
instance ii10:TI Tryz.prog 10 (Value.string { data:=#[] }) 1 16:=⟨by kernel_rfl⟩
instance iu11:UT Tryz.prog 11 (TypeDesc.string):=⟨Tryz.underlying11⟩
instance ii11:TI Tryz.prog 11 (Value.string { data:=#[] }) 1 16:=⟨by kernel_rfl⟩
instance iu12:UT Tryz.prog 12 (TypeDesc.int IntKind.u64):=⟨Tryz.underlying12⟩
instance ii12:TI Tryz.prog 12 (Value.int IntKind.u64 0) 1 8:=⟨by kernel_rfl⟩
instance iu13:UT Tryz.prog 13 Tryz.t13.desc:=⟨Tryz.underlying13⟩
instance ii13:TI Tryz.prog 13 (Value.agg #[Value.string { data:=#[] },Value.int IntKind.u64 0]) 2 24:=⟨by kernel_rfl⟩
instance ib13:BT Tryz.prog 13 [(0,1),(1,1)]:=⟨⟨_,Tryz.underlying13,by kernel_rfl⟩⟩
instance is13_0:SF Tryz.prog 13 0 0 9:=⟨⟨_,_,Tryz.underlying13,rfl,rfl,rfl⟩⟩
instance is13_1:SF Tryz.prog 13 1 1 12:=⟨⟨_,_,Tryz.underlying13,rfl,rfl,rfl⟩⟩
instance iu14:UT Tryz.prog 14 Tryz.t13.desc:=⟨Tryz.underlying14⟩
instance ii14:TI Tryz.prog 14 (Value.agg #[Value.string { data:=#[] },Value.int IntKind.u64 0]) 2 24:=⟨by kernel_rfl⟩
instance ib14:BT Tryz.prog 14 [(0,1),(1,1)]:=⟨⟨_,Tryz.underlying14,by kernel_rfl⟩⟩
instance is14_0:SF Tryz.prog 14 0 0 9:=⟨⟨_,_,Tryz.underlying14,rfl,rfl,rfl⟩⟩
instance is14_1:SF Tryz.prog 14 1 1 12:=⟨⟨_,_,Tryz.underlying14,rfl,rfl,rfl⟩⟩
instance iu15:UT Tryz.prog 15 (TypeDesc.pointer 304):=⟨Tryz.underlying15⟩
instance ii15:TI Tryz.prog 15 (Value.pointer none) 1 8:=⟨by kernel_rfl⟩
instance iu16:UT Tryz.prog 16 (TypeDesc.pointer 307):=⟨Tryz.underlying16⟩
instance ii16:TI Tryz.prog 16 (Value.pointer none) 1 8:=⟨by kernel_rfl⟩
instance iu17:UT Tryz.prog 17 (TypeDesc.pointer 316):=⟨Tryz.underlying17⟩
instance ii17:TI Tryz.prog 17 (Value.pointer none) 1 8:=⟨by kernel_rfl⟩
instance iu18:UT Tryz.prog 18 Tryz.t18.desc:=⟨Tryz.underlying18⟩
instance ii18:TI Tryz.prog 18 (Value.agg #[Value.pointer none]) 1 8:=⟨by kernel_rfl⟩
instance ib18:BT Tryz.prog 18 [(0,1)]:=⟨⟨_,Tryz.underlying18,by kernel_rfl⟩⟩
instance is18_0:SF Tryz.prog 18 0 0 17:=⟨⟨_,_,Tryz.underlying18,rfl,rfl,rfl⟩⟩
instance iu19:UT Tryz.prog 19 Tryz.t18.desc:=⟨Tryz.underlying19⟩
instance ii19:TI Tryz.prog 19 (Value.agg #[Value.pointer none]) 1 8:=⟨by kernel_rfl⟩
instance ib19:BT Tryz.prog 19 [(0,1)]:=⟨⟨_,Tryz.underlying19,by kernel_rfl⟩⟩
instance is19_0:SF Tryz.prog 19 0 0 17:=⟨⟨_,_,Tryz.underlying19,rfl,rfl,rfl⟩⟩
instance iu20:UT Tryz.prog 20 Tryz.t20.desc:=⟨Tryz.underlying20⟩
instance ii20:TI Tryz.prog 20 Value.nilIface 1 16:=⟨by kernel_rfl⟩
instance iu21:UT Tryz.prog 21 (TypeDesc.int IntKind.i32):=⟨Tryz.underlying21⟩
instance ii21:TI Tryz.prog 21 (Value.int IntKind.i32 0) 1 4:=⟨by kernel_rfl⟩
instance iu22:UT Tryz.prog 22 (TypeDesc.slice 72):=⟨Tryz.underlying22⟩
instance ii22:TI Tryz.prog 22 (Value.slice none 0 0) 1 24:=⟨by kernel_rfl⟩
instance iu23:UT Tryz.prog 23 (TypeDesc.slice 144):=⟨Tryz.underlying23⟩
instance ii23:TI Tryz.prog 23 (Value.slice none 0 0) 1 24:=⟨by kernel_rfl⟩
instance iu24:UT Tryz.prog 24 Tryz.t24.desc:=⟨Tryz.underlying24⟩
instance ii24:TI Tryz.prog 24 (Value.agg #[Value.slice none 0 0]) 1 24:=⟨by kernel_rfl⟩
instance ib24:BT Tryz.prog 24 [(0,1)]:=⟨⟨_,Tryz.underlying24,by kernel_rfl⟩⟩
instance is24_0:SF Tryz.prog 24 0 0 23:=⟨⟨_,_,Tryz.underlying24,rfl,rfl,rfl⟩⟩
instance iu25:UT Tryz.prog 25 Tryz.t24.desc:=⟨Tryz.underlying25⟩
instance ii25:TI Tryz.prog 25 (Value.agg #[Value.slice none 0 0]) 1 24:=⟨by kernel_rfl⟩
instance ib25:BT Tryz.prog 25 [(0,1)]:=⟨⟨_,Tryz.underlying25,by kernel_rfl⟩⟩
instance is25_0:SF Tryz.prog 25 0 0 23:=⟨⟨_,_,Tryz.underlying25,rfl,rfl,rfl⟩⟩
instance iu26:UT Tryz.prog 26 (TypeDesc.slice 108):=⟨Tryz.underlying26⟩
instance ii26:TI Tryz.prog 26 (Value.slice none 0 0) 1 24:=⟨by kernel_rfl⟩
instance iu27:UT Tryz.prog 27 (TypeDesc.slice 109):=⟨Tryz.underlying27⟩
instance ii27:TI Tryz.prog 27 (Value.slice none 0 0) 1 24:=⟨by kernel_rfl⟩
instance iu28:UT Tryz.prog 28 Tryz.t28.desc:=⟨Tryz.underlying28⟩
instance ii28:TI Tryz.prog 28 (Value.agg #[Value.string { data:=#[] },Value.slice none 0 0,Value.slice none 0 0]) 3 64:=⟨by kernel_rfl⟩
instance ib28:BT Tryz.prog 28 [(0,1),(1,1),(2,1)]:=⟨⟨_,Tryz.underlying28,by kernel_rfl⟩⟩
instance is28_0:SF Tryz.prog 28 0 0 9:=⟨⟨_,_,Tryz.underlying28,rfl,rfl,rfl⟩⟩
instance is28_1:SF Tryz.prog 28 1 1 26:=⟨⟨_,_,Tryz.underlying28,rfl,rfl,rfl⟩⟩
instance is28_2:SF Tryz.prog 28 2 2 27:=⟨⟨_,_,Tryz.underlying28,rfl,rfl,rfl⟩⟩
instance iu29:UT Tryz.prog 29 Tryz.t28.desc:=⟨Tryz.underlying29⟩
instance ii29:TI Tryz.prog 29 (Value.agg #[Value.string { data:=#[] },Value.slice none 0 0,Value.slice none 0 0]) 3 64:=⟨by kernel_rfl⟩
instance ib29:BT Tryz.prog 29 [(0,1),(1,1),(2,1)]:=⟨⟨_,Tryz.underlying29,by kernel_rfl⟩⟩
instance is29_0:SF Tryz.prog 29 0 0 9:=⟨⟨_,_,Tryz.underlying29,rfl,rfl,rfl⟩⟩
instance is29_1:SF Tryz.prog 29 1 1 26:=⟨⟨_,_,Tryz.underlying29,rfl,rfl,rfl⟩⟩
instance is29_2:SF Tryz.prog 29 2 2 27:=⟨⟨_,_,Tryz.underlying29,rfl,rfl,rfl⟩⟩
instance iu30:UT Tryz.prog 30 (TypeDesc.slice 112):=⟨Tryz.underlying30⟩
instance ii30:TI Tryz.prog 30 (Value.slice none 0 0) 1 24:=⟨by kernel_rfl⟩
instance iu31:UT Tryz.prog 31 (TypeDesc.slice 146):=⟨Tryz.underlying31⟩
instance ii31:TI Tryz.prog 31 (Value.slice none 0 0) 1 24:=⟨by kernel_rfl⟩
instance iu32:UT Tryz.prog 32 (TypeDesc.slice 3):=⟨Tryz.underlying32⟩
instance ii32:TI Tryz.prog 32 (Value.slice none 0 0) 1 24:=⟨by kernel_rfl⟩
instance iu33:UT Tryz.prog 33 Tryz.t33.desc:=⟨Tryz.underlying33⟩
instance ii33:TI Tryz.prog 33 (Value.agg #[Value.int IntKind.i64 0,Value.slice none 0 0,Value.slice none 0 0]) 3 56:=⟨by kernel_rfl⟩
instance ib33:BT Tryz.prog 33 [(0,1),(1,1),(2,1)]:=⟨⟨_,Tryz.underlying33,by kernel_rfl⟩⟩
instance is33_0:SF Tryz.prog 33 0 0 3:=⟨⟨_,_,Tryz.underlying33,rfl,rfl,rfl⟩⟩
instance is33_1:SF Tryz.prog 33 1 1 31:=⟨⟨_,_,Tryz.underlying33,rfl,rfl,rfl⟩⟩
instance is33_2:SF Tryz.prog 33 2 2 32:=⟨⟨_,_,Tryz.underlying33,rfl,rfl,rfl⟩⟩
instance iu34:UT Tryz.prog 34 Tryz.t33.desc:=⟨Tryz.underlying34⟩
instance ii34:TI Tryz.prog 34 (Value.agg #[Value.int IntKind.i64 0,Value.slice none 0 0,Value.slice none 0 0]) 3 56:=⟨by kernel_rfl⟩
instance ib34:BT Tryz.prog 34 [(0,1),(1,1),(2,1)]:=⟨⟨_,Tryz.underlying34,by kernel_rfl⟩⟩
instance is34_0:SF Tryz.prog 34 0 0 3:=⟨⟨_,_,Tryz.underlying34,rfl,rfl,rfl⟩⟩
instance is34_1:SF Tryz.prog 34 1 1 31:=⟨⟨_,_,Tryz.underlying34,rfl,rfl,rfl⟩⟩
instance is34_2:SF Tryz.prog 34 2 2 32:=⟨⟨_,_,Tryz.underlying34,rfl,rfl,rfl⟩⟩
instance iu35:UT Tryz.prog 35 (TypeDesc.slice 65):=⟨Tryz.underlying35⟩
instance ii35:TI Tryz.prog 35 (Value.slice none 0 0) 1 24:=⟨by kernel_rfl⟩
instance iu36:UT Tryz.prog 36 Tryz.t36.desc:=⟨Tryz.underlying36⟩
instance ii36:TI Tryz.prog 36 (Value.agg #[Value.slice none 0 0,Value.string { data:=#[] },Value.slice none 0 0,Value.slice none 0 0,Value.slice none 0 0,Value.int IntKind.i64 0,Value.slice none 0 0,Value.slice none 0 0,Value.slice none 0 0]) 9 192:=⟨by kernel_rfl⟩
instance ib36:BT Tryz.prog 36 [(0,1),(1,3),(4,1),(5,3),(8,1)]:=⟨⟨_,Tryz.underlying36,by kernel_rfl⟩⟩
instance is36_0:SF Tryz.prog 36 0 0 25:=⟨⟨_,_,Tryz.underlying36,rfl,rfl,rfl⟩⟩
instance is36_1:SF Tryz.prog 36 1 1 29:=⟨⟨_,_,Tryz.underlying36,rfl,rfl,rfl⟩⟩
instance is36_2:SF Tryz.prog 36 2 4 30:=⟨⟨_,_,Tryz.underlying36,rfl,rfl,rfl⟩⟩
instance is36_3:SF Tryz.prog 36 3 5 34:=⟨⟨_,_,Tryz.underlying36,rfl,rfl,rfl⟩⟩
instance is36_4:SF Tryz.prog 36 4 8 35:=⟨⟨_,_,Tryz.underlying36,rfl,rfl,rfl⟩⟩
instance iu37:UT Tryz.prog 37 Tryz.t36.desc:=⟨Tryz.underlying37⟩
instance ii37:TI Tryz.prog 37 (Value.agg #[Value.slice none 0 0,Value.string { data:=#[] },Value.slice none 0 0,Value.slice none 0 0,Value.slice none 0 0,Value.int IntKind.i64 0,Value.slice none 0 0,Value.slice none 0 0,Value.slice none 0 0]) 9 192:=⟨by kernel_rfl⟩
instance ib37:BT Tryz.prog 37 [(0,1),(1,3),(4,1),(5,3),(8,1)]:=⟨⟨_,Tryz.underlying37,by kernel_rfl⟩⟩
instance is37_0:SF Tryz.prog 37 0 0 25:=⟨⟨_,_,Tryz.underlying37,rfl,rfl,rfl⟩⟩
instance is37_1:SF Tryz.prog 37 1 1 29:=⟨⟨_,_,Tryz.underlying37,rfl,rfl,rfl⟩⟩
instance is37_2:SF Tryz.prog 37 2 4 30:=⟨⟨_,_,Tryz.underlying37,rfl,rfl,rfl⟩⟩
instance is37_3:SF Tryz.prog 37 3 5 34:=⟨⟨_,_,Tryz.underlying37,rfl,rfl,rfl⟩⟩
instance is37_4:SF Tryz.prog 37 4 8 35:=⟨⟨_,_,Tryz.underlying37,rfl,rfl,rfl⟩⟩
instance iu38:UT Tryz.prog 38 Tryz.t38.desc:=⟨Tryz.underlying38⟩
instance ii38:TI Tryz.prog 38 (Value.agg #[Value.int IntKind.i64 0,Value.int IntKind.i64 0]) 2 16:=⟨by kernel_rfl⟩
instance ib38:BT Tryz.prog 38 [(0,1),(1,1)]:=⟨⟨_,Tryz.underlying38,by kernel_rfl⟩⟩
instance is38_0:SF Tryz.prog 38 0 0 3:=⟨⟨_,_,Tryz.underlying38,rfl,rfl,rfl⟩⟩
instance is38_1:SF Tryz.prog 38 1 1 3:=⟨⟨_,_,Tryz.underlying38,rfl,rfl,rfl⟩⟩
instance iu39:UT Tryz.prog 39 Tryz.t38.desc:=⟨Tryz.underlying39⟩
instance ii39:TI Tryz.prog 39 (Value.agg #[Value.int IntKind.i64 0,Value.int IntKind.i64 0]) 2 16:=⟨by kernel_rfl⟩
instance ib39:BT Tryz.prog 39 [(0,1),(1,1)]:=⟨⟨_,Tryz.underlying39,by kernel_rfl⟩⟩
instance is39_0:SF Tryz.prog 39 0 0 3:=⟨⟨_,_,Tryz.underlying39,rfl,rfl,rfl⟩⟩
instance is39_1:SF Tryz.prog 39 1 1 3:=⟨⟨_,_,Tryz.underlying39,rfl,rfl,rfl⟩⟩
instance iu40:UT Tryz.prog 40 Tryz.t40.desc:=⟨Tryz.underlying40⟩
instance ii40:TI Tryz.prog 40 Value.nilFunc 1 8:=⟨by kernel_rfl⟩
instance iu41:UT Tryz.prog 41 Tryz.t41.desc:=⟨Tryz.underlying41⟩
instance ii41:TI Tryz.prog 41 Value.nilFunc 1 8:=⟨by kernel_rfl⟩
instance iu42:UT Tryz.prog 42 Tryz.t42.desc:=⟨Tryz.underlying42⟩
instance ii42:TI Tryz.prog 42 Value.nilFunc 1 8:=⟨by kernel_rfl⟩
instance iu43:UT Tryz.prog 43 Tryz.t43.desc:=⟨Tryz.underlying43⟩
instance ii43:TI Tryz.prog 43 Value.nilFunc 1 8:=⟨by kernel_rfl⟩
instance iu44:UT Tryz.prog 44 Tryz.t44.desc:=⟨Tryz.underlying44⟩
instance ii44:TI Tryz.prog 44 Value.nilFunc 1 8:=⟨by kernel_rfl⟩
instance iu45:UT Tryz.prog 45 Tryz.t45.desc:=⟨Tryz.underlying45⟩
instance ii45:TI Tryz.prog 45 Value.nilFunc 1 8:=⟨by kernel_rfl⟩
instance iu46:UT Tryz.prog 46 (TypeDesc.slice 39):=⟨Tryz.underlying46⟩
instance ii46:TI Tryz.prog 46 (Value.slice none 0 0) 1 24:=⟨by kernel_rfl⟩
instance iu47:UT Tryz.prog 47 Tryz.t47.desc:=⟨Tryz.underlying47⟩
instance ii47:TI Tryz.prog 47 Value.nilFunc 1 8:=⟨by kernel_rfl⟩
instance iu48:UT Tryz.prog 48 Tryz.t48.desc:=⟨Tryz.underlying48⟩
instance ii48:TI Tryz.prog 48 Value.nilFunc 1 8:=⟨by kernel_rfl⟩
instance iu49:UT Tryz.prog 49 Tryz.t49.desc:=⟨Tryz.underlying49⟩
instance ii49:TI Tryz.prog 49 Value.nilFunc 1 8:=⟨by kernel_rfl⟩
instance iu50:UT Tryz.prog 50 Tryz.t50.desc:=⟨Tryz.underlying50⟩
instance ii50:TI Tryz.prog 50 Value.nilFunc 1 8:=⟨by kernel_rfl⟩
instance iu51:UT Tryz.prog 51 (TypeDesc.slice 90):=⟨Tryz.underlying51⟩
instance ii51:TI Tryz.prog 51 (Value.slice none 0 0) 1 24:=⟨by kernel_rfl⟩
instance iu52:UT Tryz.prog 52 Tryz.t52.desc:=⟨Tryz.underlying52⟩
instance ii52:TI Tryz.prog 52 Value.nilFunc 1 8:=⟨by kernel_rfl⟩
instance iu53:UT Tryz.prog 53 (TypeDesc.int IntKind.i64):=⟨Tryz.underlying53⟩
instance ii53:TI Tryz.prog 53 (Value.int IntKind.i64 0) 1 8:=⟨by kernel_rfl⟩
instance iu54:UT Tryz.prog 54 Tryz.t54.desc:=⟨Tryz.underlying54⟩
instance ii54:TI Tryz.prog 54 Value.nilFunc 1 8:=⟨by kernel_rfl⟩
instance iu55:UT Tryz.prog 55 Tryz.t55.desc:=⟨Tryz.underlying55⟩
instance ii55:TI Tryz.prog 55 Value.nilFunc 1 8:=⟨by kernel_rfl⟩
instance iu56:UT Tryz.prog 56 Tryz.t56.desc:=⟨Tryz.underlying56⟩
instance ii56:TI Tryz.prog 56 Value.nilFunc 1 8:=⟨by kernel_rfl⟩
instance iu57:UT Tryz.prog 57 Tryz.t57.desc:=⟨Tryz.underlying57⟩
instance ii57:TI Tryz.prog 57 Value.nilFunc 1 8:=⟨by kernel_rfl⟩
instance iu58:UT Tryz.prog 58 Tryz.t58.desc:=⟨Tryz.underlying58⟩
instance ii58:TI Tryz.prog 58 Value.nilFunc 1 8:=⟨by kernel_rfl⟩
instance iu59:UT Tryz.prog 59 Tryz.t59.desc:=⟨Tryz.underlying59⟩
instance ii59:TI Tryz.prog 59 Value.nilFunc 1 8:=⟨by kernel_rfl⟩
instance iu60:UT Tryz.prog 60 Tryz.t60.desc:=⟨Tryz.underlying60⟩
instance ii60:TI Tryz.prog 60 Value.nilFunc 1 8:=⟨by kernel_rfl⟩
instance iu61:UT Tryz.prog 61 (TypeDesc.slice 32):=⟨Tryz.underlying61⟩
instance ii61:TI Tryz.prog 61 (Value.slice none 0 0) 1 24:=⟨by kernel_rfl⟩
instance iu62:UT Tryz.prog 62 (TypeDesc.slice 148):=⟨Tryz.underlying62⟩
instance ii62:TI Tryz.prog 62 (Value.slice none 0 0) 1 24:=⟨by kernel_rfl⟩
instance iu63:UT Tryz.prog 63 (TypeDesc.slice 212):=⟨Tryz.underlying63⟩
instance ii63:TI Tryz.prog 63 (Value.slice none 0 0) 1 24:=⟨by kernel_rfl⟩
instance iu64:UT Tryz.prog 64 Tryz.t64.desc:=⟨Tryz.underlying64⟩
instance ii64:TI Tryz.prog 64 (Value.agg #[Value.int IntKind.i64 0,Value.slice none 0 0,Value.int IntKind.i64 0,Value.slice none 0 0,Value.int IntKind.i64 0,Value.slice none 0 0,Value.slice none 0 0,Value.slice none 0 0]) 8 144:=⟨by kernel_rfl⟩
instance ib64:BT Tryz.prog 64 [(0,1),(1,1),(2,1),(3,1),(4,1),(5,1),(6,1),(7,1)]:=⟨⟨_,Tryz.underlying64,by kernel_rfl⟩⟩
instance is64_0:SF Tryz.prog 64 0 0 3:=⟨⟨_,_,Tryz.underlying64,rfl,rfl,rfl⟩⟩
instance is64_1:SF Tryz.prog 64 1 1 32:=⟨⟨_,_,Tryz.underlying64,rfl,rfl,rfl⟩⟩
instance is64_2:SF Tryz.prog 64 2 2 3:=⟨⟨_,_,Tryz.underlying64,rfl,rfl,rfl⟩⟩
instance is64_3:SF Tryz.prog 64 3 3 61:=⟨⟨_,_,Tryz.underlying64,rfl,rfl,rfl⟩⟩
instance is64_4:SF Tryz.prog 64 4 4 3:=⟨⟨_,_,Tryz.underlying64,rfl,rfl,rfl⟩⟩
instance is64_5:SF Tryz.prog 64 5 5 62:=⟨⟨_,_,Tryz.underlying64,rfl,rfl,rfl⟩⟩
instance is64_6:SF Tryz.prog 64 6 6 63:=⟨⟨_,_,Tryz.underlying64,rfl,rfl,rfl⟩⟩
instance is64_7:SF Tryz.prog 64 7 7 46:=⟨⟨_,_,Tryz.underlying64,rfl,rfl,rfl⟩⟩
instance iu65:UT Tryz.prog 65 Tryz.t64.desc:=⟨Tryz.underlying65⟩
instance ii65:TI Tryz.prog 65 (Value.agg #[Value.int IntKind.i64 0,Value.slice none 0 0,Value.int IntKind.i64 0,Value.slice none 0 0,Value.int IntKind.i64 0,Value.slice none 0 0,Value.slice none 0 0,Value.slice none 0 0]) 8 144:=⟨by kernel_rfl⟩
instance ib65:BT Tryz.prog 65 [(0,1),(1,1),(2,1),(3,1),(4,1),(5,1),(6,1),(7,1)]:=⟨⟨_,Tryz.underlying65,by kernel_rfl⟩⟩
instance is65_0:SF Tryz.prog 65 0 0 3:=⟨⟨_,_,Tryz.underlying65,rfl,rfl,rfl⟩⟩
instance is65_1:SF Tryz.prog 65 1 1 32:=⟨⟨_,_,Tryz.underlying65,rfl,rfl,rfl⟩⟩
instance is65_2:SF Tryz.prog 65 2 2 3:=⟨⟨_,_,Tryz.underlying65,rfl,rfl,rfl⟩⟩
instance is65_3:SF Tryz.prog 65 3 3 61:=⟨⟨_,_,Tryz.underlying65,rfl,rfl,rfl⟩⟩
instance is65_4:SF Tryz.prog 65 4 4 3:=⟨⟨_,_,Tryz.underlying65,rfl,rfl,rfl⟩⟩
instance is65_5:SF Tryz.prog 65 5 5 62:=⟨⟨_,_,Tryz.underlying65,rfl,rfl,rfl⟩⟩
instance is65_6:SF Tryz.prog 65 6 6 63:=⟨⟨_,_,Tryz.underlying65,rfl,rfl,rfl⟩⟩
instance is65_7:SF Tryz.prog 65 7 7 46:=⟨⟨_,_,Tryz.underlying65,rfl,rfl,rfl⟩⟩
instance iu66:UT Tryz.prog 66 Tryz.t66.desc:=⟨Tryz.underlying66⟩
instance ii66:TI Tryz.prog 66 Value.nilFunc 1 8:=⟨by kernel_rfl⟩
instance iu67:UT Tryz.prog 67 Tryz.t67.desc:=⟨Tryz.underlying67⟩
instance ii67:TI Tryz.prog 67 (Value.agg #[Value.int IntKind.i64 0,Value.string { data:=#[] },Value.int IntKind.i64 0,Value.int IntKind.i64 0,Value.slice none 0 0]) 5 64:=⟨by kernel_rfl⟩
instance ib67:BT Tryz.prog 67 [(0,1),(1,1),(2,1),(3,1),(4,1)]:=⟨⟨_,Tryz.underlying67,by kernel_rfl⟩⟩
instance is67_0:SF Tryz.prog 67 0 0 3:=⟨⟨_,_,Tryz.underlying67,rfl,rfl,rfl⟩⟩
instance is67_1:SF Tryz.prog 67 1 1 9:=⟨⟨_,_,Tryz.underlying67,rfl,rfl,rfl⟩⟩
instance is67_2:SF Tryz.prog 67 2 2 3:=⟨⟨_,_,Tryz.underlying67,rfl,rfl,rfl⟩⟩
instance is67_3:SF Tryz.prog 67 3 3 3:=⟨⟨_,_,Tryz.underlying67,rfl,rfl,rfl⟩⟩
instance is67_4:SF Tryz.prog 67 4 4 32:=⟨⟨_,_,Tryz.underlying67,rfl,rfl,rfl⟩⟩
instance iu68:UT Tryz.prog 68 Tryz.t67.desc:=⟨Tryz.underlying68⟩
instance ii68:TI Tryz.prog 68 (Value.agg #[Value.int IntKind.i64 0,Value.string { data:=#[] },Value.int IntKind.i64 0,Value.int IntKind.i64 0,Value.slice none 0 0]) 5 64:=⟨by kernel_rfl⟩
instance ib68:BT Tryz.prog 68 [(0,1),(1,1),(2,1),(3,1),(4,1)]:=⟨⟨_,Tryz.underlying68,by kernel_rfl⟩⟩
instance is68_0:SF Tryz.prog 68 0 0 3:=⟨⟨_,_,Tryz.underlying68,rfl,rfl,rfl⟩⟩
instance is68_1:SF Tryz.prog 68 1 1 9:=⟨⟨_,_,Tryz.underlying68,rfl,rfl,rfl⟩⟩
instance is68_2:SF Tryz.prog 68 2 2 3:=⟨⟨_,_,Tryz.underlying68,rfl,rfl,rfl⟩⟩
instance is68_3:SF Tryz.prog 68 3 3 3:=⟨⟨_,_,Tryz.underlying68,rfl,rfl,rfl⟩⟩
instance is68_4:SF Tryz.prog 68 4 4 32:=⟨⟨_,_,Tryz.underlying68,rfl,rfl,rfl⟩⟩
instance iu69:UT Tryz.prog 69 (TypeDesc.slice 88):=⟨Tryz.underlying69⟩
instance ii69:TI Tryz.prog 69 (Value.slice none 0 0) 1 24:=⟨by kernel_rfl⟩
instance iu70:UT Tryz.prog 70 (TypeDesc.slice 80):=⟨Tryz.underlying70⟩
instance ii70:TI Tryz.prog 70 (Value.slice none 0 0) 1 24:=⟨by kernel_rfl⟩
instance iu71:UT Tryz.prog 71 Tryz.t71.desc:=⟨Tryz.underlying71⟩
instance ii71:TI Tryz.prog 71 (Value.agg #[Value.int IntKind.i64 0,Value.string { data:=#[] },Value.int IntKind.i64 0,Value.int IntKind.i64 0,Value.slice none 0 0,Value.slice none 0 0,Value.slice none 0 0]) 7 112:=⟨by kernel_rfl⟩
instance ib71:BT Tryz.prog 71 [(0,5),(5,1),(6,1)]:=⟨⟨_,Tryz.underlying71,by kernel_rfl⟩⟩
instance is71_0:SF Tryz.prog 71 0 0 68:=⟨⟨_,_,Tryz.underlying71,rfl,rfl,rfl⟩⟩
instance is71_1:SF Tryz.prog 71 1 5 69:=⟨⟨_,_,Tryz.underlying71,rfl,rfl,rfl⟩⟩
instance is71_2:SF Tryz.prog 71 2 6 70:=⟨⟨_,_,Tryz.underlying71,rfl,rfl,rfl⟩⟩
instance iu72:UT Tryz.prog 72 Tryz.t71.desc:=⟨Tryz.underlying72⟩
instance ii72:TI Tryz.prog 72 (Value.agg #[Value.int IntKind.i64 0,Value.string { data:=#[] },Value.int IntKind.i64 0,Value.int IntKind.i64 0,Value.slice none 0 0,Value.slice none 0 0,Value.slice none 0 0]) 7 112:=⟨by kernel_rfl⟩
instance ib72:BT Tryz.prog 72 [(0,5),(5,1),(6,1)]:=⟨⟨_,Tryz.underlying72,by kernel_rfl⟩⟩
instance is72_0:SF Tryz.prog 72 0 0 68:=⟨⟨_,_,Tryz.underlying72,rfl,rfl,rfl⟩⟩
instance is72_1:SF Tryz.prog 72 1 5 69:=⟨⟨_,_,Tryz.underlying72,rfl,rfl,rfl⟩⟩
instance is72_2:SF Tryz.prog 72 2 6 70:=⟨⟨_,_,Tryz.underlying72,rfl,rfl,rfl⟩⟩
instance iu73:UT Tryz.prog 73 Tryz.t73.desc:=⟨Tryz.underlying73⟩
instance ii73:TI Tryz.prog 73 (Value.tuple #[Value.agg #[Value.int IntKind.i64 0,Value.string { data:=#[] },Value.int IntKind.i64 0,Value.int IntKind.i64 0,Value.slice none 0 0,Value.slice none 0 0,Value.slice none 0 0],Value.bool false]) 1 0:=⟨by kernel_rfl⟩
instance iu74:UT Tryz.prog 74 Tryz.t74.desc:=⟨Tryz.underlying74⟩
instance ii74:TI Tryz.prog 74 Value.nilFunc 1 8:=⟨by kernel_rfl⟩
instance iu75:UT Tryz.prog 75 Tryz.t75.desc:=⟨Tryz.underlying75⟩
instance ii75:TI Tryz.prog 75 (Value.agg #[Value.int IntKind.i64 0,Value.int IntKind.i64 0]) 2 16:=⟨by kernel_rfl⟩
instance ib75:BT Tryz.prog 75 [(0,1),(1,1)]:=⟨⟨_,Tryz.underlying75,by kernel_rfl⟩⟩
instance is75_0:SF Tryz.prog 75 0 0 3:=⟨⟨_,_,Tryz.underlying75,rfl,rfl,rfl⟩⟩
instance is75_1:SF Tryz.prog 75 1 1 3:=⟨⟨_,_,Tryz.underlying75,rfl,rfl,rfl⟩⟩
instance iu76:UT Tryz.prog 76 Tryz.t75.desc:=⟨Tryz.underlying76⟩
instance ii76:TI Tryz.prog 76 (Value.agg #[Value.int IntKind.i64 0,Value.int IntKind.i64 0]) 2 16:=⟨by kernel_rfl⟩
instance ib76:BT Tryz.prog 76 [(0,1),(1,1)]:=⟨⟨_,Tryz.underlying76,by kernel_rfl⟩⟩
instance is76_0:SF Tryz.prog 76 0 0 3:=⟨⟨_,_,Tryz.underlying76,rfl,rfl,rfl⟩⟩
instance is76_1:SF Tryz.prog 76 1 1 3:=⟨⟨_,_,Tryz.underlying76,rfl,rfl,rfl⟩⟩
instance iu77:UT Tryz.prog 77 Tryz.t77.desc:=⟨Tryz.underlying77⟩
instance ii77:TI Tryz.prog 77 (Value.tuple #[Value.agg #[Value.int IntKind.i64 0,Value.int IntKind.i64 0],Value.bool false]) 1 0:=⟨by kernel_rfl⟩
instance iu78:UT Tryz.prog 78 Tryz.t78.desc:=⟨Tryz.underlying78⟩
instance ii78:TI Tryz.prog 78 Value.nilFunc 1 8:=⟨by kernel_rfl⟩
instance iu79:UT Tryz.prog 79 Tryz.t79.desc:=⟨Tryz.underlying79⟩
instance ii79:TI Tryz.prog 79 (Value.agg #[Value.int IntKind.i64 0,Value.int IntKind.i64 0,Value.int IntKind.i64 0,Value.int IntKind.i64 0,Value.int IntKind.i64 0,Value.int IntKind.i64 0,Value.string { data:=#[] }]) 7 64:=⟨by kernel_rfl⟩
instance ib79:BT Tryz.prog 79 [(0,1),(1,1),(2,1),(3,2),(5,1),(6,1)]:=⟨⟨_,Tryz.underlying79,by kernel_rfl⟩⟩
instance is79_0:SF Tryz.prog 79 0 0 3:=⟨⟨_,_,Tryz.underlying79,rfl,rfl,rfl⟩⟩
instance is79_1:SF Tryz.prog 79 1 1 3:=⟨⟨_,_,Tryz.underlying79,rfl,rfl,rfl⟩⟩
instance is79_2:SF Tryz.prog 79 2 2 3:=⟨⟨_,_,Tryz.underlying79,rfl,rfl,rfl⟩⟩
instance is79_3:SF Tryz.prog 79 3 3 76:=⟨⟨_,_,Tryz.underlying79,rfl,rfl,rfl⟩⟩
instance is79_4:SF Tryz.prog 79 4 5 3:=⟨⟨_,_,Tryz.underlying79,rfl,rfl,rfl⟩⟩
instance is79_5:SF Tryz.prog 79 5 6 9:=⟨⟨_,_,Tryz.underlying79,rfl,rfl,rfl⟩⟩
instance iu80:UT Tryz.prog 80 Tryz.t79.desc:=⟨Tryz.underlying80⟩
instance ii80:TI Tryz.prog 80 (Value.agg #[Value.int IntKind.i64 0,Value.int IntKind.i64 0,Value.int IntKind.i64 0,Value.int IntKind.i64 0,Value.int IntKind.i64 0,Value.int IntKind.i64 0,Value.string { data:=#[] }]) 7 64:=⟨by kernel_rfl⟩
instance ib80:BT Tryz.prog 80 [(0,1),(1,1),(2,1),(3,2),(5,1),(6,1)]:=⟨⟨_,Tryz.underlying80,by kernel_rfl⟩⟩
instance is80_0:SF Tryz.prog 80 0 0 3:=⟨⟨_,_,Tryz.underlying80,rfl,rfl,rfl⟩⟩
instance is80_1:SF Tryz.prog 80 1 1 3:=⟨⟨_,_,Tryz.underlying80,rfl,rfl,rfl⟩⟩
instance is80_2:SF Tryz.prog 80 2 2 3:=⟨⟨_,_,Tryz.underlying80,rfl,rfl,rfl⟩⟩
instance is80_3:SF Tryz.prog 80 3 3 76:=⟨⟨_,_,Tryz.underlying80,rfl,rfl,rfl⟩⟩
instance is80_4:SF Tryz.prog 80 4 5 3:=⟨⟨_,_,Tryz.underlying80,rfl,rfl,rfl⟩⟩
instance is80_5:SF Tryz.prog 80 5 6 9:=⟨⟨_,_,Tryz.underlying80,rfl,rfl,rfl⟩⟩
instance iu81:UT Tryz.prog 81 Tryz.t81.desc:=⟨Tryz.underlying81⟩
instance ii81:TI Tryz.prog 81 (Value.tuple #[Value.agg #[Value.int IntKind.i64 0,Value.int IntKind.i64 0,Value.int IntKind.i64 0,Value.int IntKind.i64 0,Value.int IntKind.i64 0,Value.int IntKind.i64 0,Value.string { data:=#[] }],Value.bool false]) 1 0:=⟨by kernel_rfl⟩
instance iu82:UT Tryz.prog 82 Tryz.t82.desc:=⟨Tryz.underlying82⟩
instance ii82:TI Tryz.prog 82 Value.nilFunc 1 8:=⟨by kernel_rfl⟩
instance iu83:UT Tryz.prog 83 Tryz.t83.desc:=⟨Tryz.underlying83⟩
instance ii83:TI Tryz.prog 83 Value.nilFunc 1 8:=⟨by kernel_rfl⟩
instance iu84:UT Tryz.prog 84 Tryz.t84.desc:=⟨Tryz.underlying84⟩
instance ii84:TI Tryz.prog 84 (Value.tuple #[Value.slice none 0 0,Value.int IntKind.i64 0,Value.int IntKind.i64 0]) 1 0:=⟨by kernel_rfl⟩
instance iu85:UT Tryz.prog 85 Tryz.t85.desc:=⟨Tryz.underlying85⟩
instance ii85:TI Tryz.prog 85 Value.nilFunc 1 8:=⟨by kernel_rfl⟩
instance iu86:UT Tryz.prog 86 Tryz.t86.desc:=⟨Tryz.underlying86⟩
instance ii86:TI Tryz.prog 86 Value.nilFunc 1 8:=⟨by kernel_rfl⟩
instance iu87:UT Tryz.prog 87 Tryz.t87.desc:=⟨Tryz.underlying87⟩
instance ii87:TI Tryz.prog 87 (Value.agg #[Value.string { data:=#[] },Value.int IntKind.i64 0,Value.int IntKind.i64 0,Value.int IntKind.i64 0]) 4 40:=⟨by kernel_rfl⟩
instance ib87:BT Tryz.prog 87 [(0,1),(1,1),(2,1),(3,1)]:=⟨⟨_,Tryz.underlying87,by kernel_rfl⟩⟩
instance is87_0:SF Tryz.prog 87 0 0 9:=⟨⟨_,_,Tryz.underlying87,rfl,rfl,rfl⟩⟩
instance is87_1:SF Tryz.prog 87 1 1 3:=⟨⟨_,_,Tryz.underlying87,rfl,rfl,rfl⟩⟩
instance is87_2:SF Tryz.prog 87 2 2 3:=⟨⟨_,_,Tryz.underlying87,rfl,rfl,rfl⟩⟩
instance is87_3:SF Tryz.prog 87 3 3 3:=⟨⟨_,_,Tryz.underlying87,rfl,rfl,rfl⟩⟩
instance iu88:UT Tryz.prog 88 Tryz.t87.desc:=⟨Tryz.underlying88⟩
instance ii88:TI Tryz.prog 88 (Value.agg #[Value.string { data:=#[] },Value.int IntKind.i64 0,Value.int IntKind.i64 0,Value.int IntKind.i64 0]) 4 40:=⟨by kernel_rfl⟩
instance ib88:BT Tryz.prog 88 [(0,1),(1,1),(2,1),(3,1)]:=⟨⟨_,Tryz.underlying88,by kernel_rfl⟩⟩
instance is88_0:SF Tryz.prog 88 0 0 9:=⟨⟨_,_,Tryz.underlying88,rfl,rfl,rfl⟩⟩
instance is88_1:SF Tryz.prog 88 1 1 3:=⟨⟨_,_,Tryz.underlying88,rfl,rfl,rfl⟩⟩
instance is88_2:SF Tryz.prog 88 2 2 3:=⟨⟨_,_,Tryz.underlying88,rfl,rfl,rfl⟩⟩
instance is88_3:SF Tryz.prog 88 3 3 3:=⟨⟨_,_,Tryz.underlying88,rfl,rfl,rfl⟩⟩
instance iu89:UT Tryz.prog 89 Tryz.t89.desc:=⟨Tryz.underlying89⟩
instance ii89:TI Tryz.prog 89 (Value.agg #[Value.int IntKind.i64 0,Value.string { data:=#[] },Value.string { data:=#[] },Value.slice none 0 0,Value.slice none 0 0]) 5 88:=⟨by kernel_rfl⟩
instance ib89:BT Tryz.prog 89 [(0,1),(1,1),(2,1),(3,1),(4,1)]:=⟨⟨_,Tryz.underlying89,by kernel_rfl⟩⟩
instance is89_0:SF Tryz.prog 89 0 0 3:=⟨⟨_,_,Tryz.underlying89,rfl,rfl,rfl⟩⟩
instance is89_1:SF Tryz.prog 89 1 1 9:=⟨⟨_,_,Tryz.underlying89,rfl,rfl,rfl⟩⟩
instance is89_2:SF Tryz.prog 89 2 2 9:=⟨⟨_,_,Tryz.underlying89,rfl,rfl,rfl⟩⟩
instance is89_3:SF Tryz.prog 89 3 3 32:=⟨⟨_,_,Tryz.underlying89,rfl,rfl,rfl⟩⟩
instance is89_4:SF Tryz.prog 89 4 4 46:=⟨⟨_,_,Tryz.underlying89,rfl,rfl,rfl⟩⟩
instance iu90:UT Tryz.prog 90 Tryz.t89.desc:=⟨Tryz.underlying90⟩
instance ii90:TI Tryz.prog 90 (Value.agg #[Value.int IntKind.i64 0,Value.string { data:=#[] },Value.string { data:=#[] },Value.slice none 0 0,Value.slice none 0 0]) 5 88:=⟨by kernel_rfl⟩
instance ib90:BT Tryz.prog 90 [(0,1),(1,1),(2,1),(3,1),(4,1)]:=⟨⟨_,Tryz.underlying90,by kernel_rfl⟩⟩
instance is90_0:SF Tryz.prog 90 0 0 3:=⟨⟨_,_,Tryz.underlying90,rfl,rfl,rfl⟩⟩
instance is90_1:SF Tryz.prog 90 1 1 9:=⟨⟨_,_,Tryz.underlying90,rfl,rfl,rfl⟩⟩
instance is90_2:SF Tryz.prog 90 2 2 9:=⟨⟨_,_,Tryz.underlying90,rfl,rfl,rfl⟩⟩
instance is90_3:SF Tryz.prog 90 3 3 32:=⟨⟨_,_,Tryz.underlying90,rfl,rfl,rfl⟩⟩
instance is90_4:SF Tryz.prog 90 4 4 46:=⟨⟨_,_,Tryz.underlying90,rfl,rfl,rfl⟩⟩
instance iu91:UT Tryz.prog 91 Tryz.t91.desc:=⟨Tryz.underlying91⟩
instance ii91:TI Tryz.prog 91 Value.nilFunc 1 8:=⟨by kernel_rfl⟩
instance iu92:UT Tryz.prog 92 Tryz.t92.desc:=⟨Tryz.underlying92⟩
instance ii92:TI Tryz.prog 92 Value.nilFunc 1 8:=⟨by kernel_rfl⟩
instance iu93:UT Tryz.prog 93 Tryz.t93.desc:=⟨Tryz.underlying93⟩
instance ii93:TI Tryz.prog 93 Value.nilFunc 1 8:=⟨by kernel_rfl⟩
instance iu94:UT Tryz.prog 94 Tryz.t94.desc:=⟨Tryz.underlying94⟩
instance ii94:TI Tryz.prog 94 (Value.tuple #[Value.agg #[Value.int IntKind.i64 0,Value.string { data:=#[] },Value.int IntKind.i64 0,Value.int IntKind.i64 0,Value.slice none 0 0,Value.slice none 0 0,Value.slice none 0 0],Value.slice none 0 0,Value.int IntKind.i64 0]) 1 0:=⟨by kernel_rfl⟩
instance iu95:UT Tryz.prog 95 Tryz.t95.desc:=⟨Tryz.underlying95⟩
instance ii95:TI Tryz.prog 95 Value.nilFunc 1 8:=⟨by kernel_rfl⟩
instance iu96:UT Tryz.prog 96 Tryz.t96.desc:=⟨Tryz.underlying96⟩
instance ii96:TI Tryz.prog 96 Value.nilFunc 1 8:=⟨by kernel_rfl⟩
instance iu97:UT Tryz.prog 97 Tryz.t97.desc:=⟨Tryz.underlying97⟩
instance ii97:TI Tryz.prog 97 Value.nilFunc 1 8:=⟨by kernel_rfl⟩
instance iu98:UT Tryz.prog 98 Tryz.t98.desc:=⟨Tryz.underlying98⟩
instance ii98:TI Tryz.prog 98 Value.nilFunc 1 8:=⟨by kernel_rfl⟩
instance iu99:UT Tryz.prog 99 Tryz.t99.desc:=⟨Tryz.underlying99⟩
instance ii99:TI Tryz.prog 99 Value.nilFunc 1 8:=⟨by kernel_rfl⟩
instance iu100:UT Tryz.prog 100 Tryz.t100.desc:=⟨Tryz.underlying100⟩
instance ii100:TI Tryz.prog 100 (Value.tuple #[Value.agg #[Value.int IntKind.i64 0,Value.slice none 0 0,Value.int IntKind.i64 0,Value.slice none 0 0,Value.int IntKind.i64 0,Value.slice none 0 0,Value.slice none 0 0,Value.slice none 0 0],Value.bool false]) 1 0:=⟨by kernel_rfl⟩
instance iu101:UT Tryz.prog 101 Tryz.t101.desc:=⟨Tryz.underlying101⟩
instance ii101:TI Tryz.prog 101 Value.nilFunc 1 8:=⟨by kernel_rfl⟩
instance iu102:UT Tryz.prog 102 Tryz.t102.desc:=⟨Tryz.underlying102⟩
instance ii102:TI Tryz.prog 102 Value.nilIface 1 16:=⟨by kernel_rfl⟩
instance iu103:UT Tryz.prog 103 Tryz.t102.desc:=⟨Tryz.underlying103⟩
instance ii103:TI Tryz.prog 103 Value.nilIface 1 16:=⟨by kernel_rfl⟩
instance iu104:UT Tryz.prog 104 Tryz.t104.desc:=⟨Tryz.underlying104⟩
instance ii104:TI Tryz.prog 104 Value.nilFunc 1 8:=⟨by kernel_rfl⟩
instance iu105:UT Tryz.prog 105 Tryz.t105.desc:=⟨Tryz.underlying105⟩
instance ii105:TI Tryz.prog 105 Value.nilFunc 1 8:=⟨by kernel_rfl⟩
instance iu106:UT Tryz.prog 106 Tryz.t106.desc:=⟨Tryz.underlying106⟩
instance ii106:TI Tryz.prog 106 Value.nilFunc 1 8:=⟨by kernel_rfl⟩
instance iu107:UT Tryz.prog 107 Tryz.t107.desc:=⟨Tryz.underlying107⟩
instance ii107:TI Tryz.prog 107 (Value.agg #[Value.string { data:=#[] },Value.slice none 0 0]) 2 40:=⟨by kernel_rfl⟩
instance ib107:BT Tryz.prog 107 [(0,1),(1,1)]:=⟨⟨_,Tryz.underlying107,by kernel_rfl⟩⟩
instance is107_0:SF Tryz.prog 107 0 0 9:=⟨⟨_,_,Tryz.underlying107,rfl,rfl,rfl⟩⟩
instance is107_1:SF Tryz.prog 107 1 1 32:=⟨⟨_,_,Tryz.underlying107,rfl,rfl,rfl⟩⟩
instance iu108:UT Tryz.prog 108 Tryz.t107.desc:=⟨Tryz.underlying108⟩
instance ii108:TI Tryz.prog 108 (Value.agg #[Value.string { data:=#[] },Value.slice none 0 0]) 2 40:=⟨by kernel_rfl⟩
instance ib108:BT Tryz.prog 108 [(0,1),(1,1)]:=⟨⟨_,Tryz.underlying108,by kernel_rfl⟩⟩
instance is108_0:SF Tryz.prog 108 0 0 9:=⟨⟨_,_,Tryz.underlying108,rfl,rfl,rfl⟩⟩
instance is108_1:SF Tryz.prog 108 1 1 32:=⟨⟨_,_,Tryz.underlying108,rfl,rfl,rfl⟩⟩
instance iu109:UT Tryz.prog 109 (TypeDesc.slice 9):=⟨Tryz.underlying109⟩
instance ii109:TI Tryz.prog 109 (Value.slice none 0 0) 1 24:=⟨by kernel_rfl⟩
instance iu110:UT Tryz.prog 110 (TypeDesc.slice 301):=⟨Tryz.underlying110⟩
instance ii110:TI Tryz.prog 110 (Value.slice none 0 0) 1 24:=⟨by kernel_rfl⟩
instance iu111:UT Tryz.prog 111 Tryz.t111.desc:=⟨Tryz.underlying111⟩
instance ii111:TI Tryz.prog 111 (Value.agg #[Value.slice none 0 0,Value.slice none 0 0,Value.slice none 0 0,Value.slice none 0 0,Value.bool false,Value.bool false]) 6 104:=⟨by kernel_rfl⟩
instance ib111:BT Tryz.prog 111 [(0,1),(1,1),(2,1),(3,1),(4,1),(5,1)]:=⟨⟨_,Tryz.underlying111,by kernel_rfl⟩⟩
instance is111_0:SF Tryz.prog 111 0 0 32:=⟨⟨_,_,Tryz.underlying111,rfl,rfl,rfl⟩⟩
instance is111_1:SF Tryz.prog 111 1 1 32:=⟨⟨_,_,Tryz.underlying111,rfl,rfl,rfl⟩⟩
instance is111_2:SF Tryz.prog 111 2 2 110:=⟨⟨_,_,Tryz.underlying111,rfl,rfl,rfl⟩⟩
instance is111_3:SF Tryz.prog 111 3 3 110:=⟨⟨_,_,Tryz.underlying111,rfl,rfl,rfl⟩⟩
instance is111_4:SF Tryz.prog 111 4 4 4:=⟨⟨_,_,Tryz.underlying111,rfl,rfl,rfl⟩⟩
instance is111_5:SF Tryz.prog 111 5 5 4:=⟨⟨_,_,Tryz.underlying111,rfl,rfl,rfl⟩⟩
instance iu112:UT Tryz.prog 112 Tryz.t111.desc:=⟨Tryz.underlying112⟩
instance ii112:TI Tryz.prog 112 (Value.agg #[Value.slice none 0 0,Value.slice none 0 0,Value.slice none 0 0,Value.slice none 0 0,Value.bool false,Value.bool false]) 6 104:=⟨by kernel_rfl⟩
instance ib112:BT Tryz.prog 112 [(0,1),(1,1),(2,1),(3,1),(4,1),(5,1)]:=⟨⟨_,Tryz.underlying112,by kernel_rfl⟩⟩
instance is112_0:SF Tryz.prog 112 0 0 32:=⟨⟨_,_,Tryz.underlying112,rfl,rfl,rfl⟩⟩
instance is112_1:SF Tryz.prog 112 1 1 32:=⟨⟨_,_,Tryz.underlying112,rfl,rfl,rfl⟩⟩
instance is112_2:SF Tryz.prog 112 2 2 110:=⟨⟨_,_,Tryz.underlying112,rfl,rfl,rfl⟩⟩
instance is112_3:SF Tryz.prog 112 3 3 110:=⟨⟨_,_,Tryz.underlying112,rfl,rfl,rfl⟩⟩
instance is112_4:SF Tryz.prog 112 4 4 4:=⟨⟨_,_,Tryz.underlying112,rfl,rfl,rfl⟩⟩
instance is112_5:SF Tryz.prog 112 5 5 4:=⟨⟨_,_,Tryz.underlying112,rfl,rfl,rfl⟩⟩
instance iu113:UT Tryz.prog 113 Tryz.t113.desc:=⟨Tryz.underlying113⟩
instance ii113:TI Tryz.prog 113 Value.nilFunc 1 8:=⟨by kernel_rfl⟩
instance iu114:UT Tryz.prog 114 Tryz.t114.desc:=⟨Tryz.underlying114⟩
instance ii114:TI Tryz.prog 114 Value.nilFunc 1 8:=⟨by kernel_rfl⟩
instance iu115:UT Tryz.prog 115 Tryz.t115.desc:=⟨Tryz.underlying115⟩
instance ii115:TI Tryz.prog 115 Value.nilFunc 1 8:=⟨by kernel_rfl⟩
instance iu116:UT Tryz.prog 116 Tryz.t116.desc:=⟨Tryz.underlying116⟩
instance ii116:TI Tryz.prog 116 Value.nilFunc 1 8:=⟨by kernel_rfl⟩
instance iu117:UT Tryz.prog 117 Tryz.t117.desc:=⟨Tryz.underlying117⟩
instance ii117:TI Tryz.prog 117 Value.nilFunc 1 8:=⟨by kernel_rfl⟩
instance iu118:UT Tryz.prog 118 Tryz.t118.desc:=⟨Tryz.underlying118⟩
instance ii118:TI Tryz.prog 118 Value.nilFunc 1 8:=⟨by kernel_rfl⟩
instance iu119:UT Tryz.prog 119 Tryz.t119.desc:=⟨Tryz.underlying119⟩
instance ii119:TI Tryz.prog 119 Value.nilFunc 1 8:=⟨by kernel_rfl⟩
instance iu120:UT Tryz.prog 120 Tryz.t120.desc:=⟨Tryz.underlying120⟩
instance ii120:TI Tryz.prog 120 Value.nilFunc 1 8:=⟨by kernel_rfl⟩
instance iu121:UT Tryz.prog 121 Tryz.t121.desc:=⟨Tryz.underlying121⟩
instance ii121:TI Tryz.prog 121 Value.nilFunc 1 8:=⟨by kernel_rfl⟩
instance iu122:UT Tryz.prog 122 Tryz.t122.desc:=⟨Tryz.underlying122⟩
instance ii122:TI Tryz.prog 122 Value.nilFunc 1 8:=⟨by kernel_rfl⟩
instance iu123:UT Tryz.prog 123 Tryz.t123.desc:=⟨Tryz.underlying123⟩
instance ii123:TI Tryz.prog 123 Value.nilFunc 1 8:=⟨by kernel_rfl⟩
instance iu124:UT Tryz.prog 124 Tryz.t124.desc:=⟨Tryz.underlying124⟩
instance ii124:TI Tryz.prog 124 (Value.tuple #[Value.slice none 0 0,Value.int IntKind.i64 0]) 1 0:=⟨by kernel_rfl⟩
instance iu125:UT Tryz.prog 125 Tryz.t125.desc:=⟨Tryz.underlying125⟩
instance ii125:TI Tryz.prog 125 Value.nilFunc 1 8:=⟨by kernel_rfl⟩
instance iu126:UT Tryz.prog 126 Tryz.t126.desc:=⟨Tryz.underlying126⟩
instance ii126:TI Tryz.prog 126 Value.nilFunc 1 8:=⟨by kernel_rfl⟩
instance iu127:UT Tryz.prog 127 (TypeDesc.slice 129):=⟨Tryz.underlying127⟩
instance ii127:TI Tryz.prog 127 (Value.slice none 0 0) 1 24:=⟨by kernel_rfl⟩
instance iu128:UT Tryz.prog 128 Tryz.t128.desc:=⟨Tryz.underlying128⟩
instance ii128:TI Tryz.prog 128 (Value.agg #[Value.int IntKind.i64 0,Value.int IntKind.i64 0,Value.int IntKind.i64 0]) 3 24:=⟨by kernel_rfl⟩
instance ib128:BT Tryz.prog 128 [(0,1),(1,1),(2,1)]:=⟨⟨_,Tryz.underlying128,by kernel_rfl⟩⟩
instance is128_0:SF Tryz.prog 128 0 0 3:=⟨⟨_,_,Tryz.underlying128,rfl,rfl,rfl⟩⟩
instance is128_1:SF Tryz.prog 128 1 1 3:=⟨⟨_,_,Tryz.underlying128,rfl,rfl,rfl⟩⟩
instance is128_2:SF Tryz.prog 128 2 2 3:=⟨⟨_,_,Tryz.underlying128,rfl,rfl,rfl⟩⟩
instance iu129:UT Tryz.prog 129 Tryz.t128.desc:=⟨Tryz.underlying129⟩
instance ii129:TI Tryz.prog 129 (Value.agg #[Value.int IntKind.i64 0,Value.int IntKind.i64 0,Value.int IntKind.i64 0]) 3 24:=⟨by kernel_rfl⟩
instance ib129:BT Tryz.prog 129 [(0,1),(1,1),(2,1)]:=⟨⟨_,Tryz.underlying129,by kernel_rfl⟩⟩
instance is129_0:SF Tryz.prog 129 0 0 3:=⟨⟨_,_,Tryz.underlying129,rfl,rfl,rfl⟩⟩
instance is129_1:SF Tryz.prog 129 1 1 3:=⟨⟨_,_,Tryz.underlying129,rfl,rfl,rfl⟩⟩
instance is129_2:SF Tryz.prog 129 2 2 3:=⟨⟨_,_,Tryz.underlying129,rfl,rfl,rfl⟩⟩
instance iu130:UT Tryz.prog 130 Tryz.t130.desc:=⟨Tryz.underlying130⟩
instance ii130:TI Tryz.prog 130 Value.nilFunc 1 8:=⟨by kernel_rfl⟩
instance iu131:UT Tryz.prog 131 Tryz.t131.desc:=⟨Tryz.underlying131⟩
instance ii131:TI Tryz.prog 131 Value.nilFunc 1 8:=⟨by kernel_rfl⟩
instance iu132:UT Tryz.prog 132 Tryz.t132.desc:=⟨Tryz.underlying132⟩
instance ii132:TI Tryz.prog 132 Value.nilFunc 1 8:=⟨by kernel_rfl⟩
instance iu133:UT Tryz.prog 133 Tryz.t133.desc:=⟨Tryz.underlying133⟩
instance ii133:TI Tryz.prog 133 Value.nilFunc 1 8:=⟨by kernel_rfl⟩
instance iu134:UT Tryz.prog 134 Tryz.t134.desc:=⟨Tryz.underlying134⟩
instance ii134:TI Tryz.prog 134 Value.nilFunc 1 8:=⟨by kernel_rfl⟩
instance iu135:UT Tryz.prog 135 Tryz.t135.desc:=⟨Tryz.underlying135⟩
instance ii135:TI Tryz.prog 135 Value.nilFunc 1 8:=⟨by kernel_rfl⟩
instance iu136:UT Tryz.prog 136 Tryz.t136.desc:=⟨Tryz.underlying136⟩
instance ii136:TI Tryz.prog 136 Value.nilFunc 1 8:=⟨by kernel_rfl⟩
instance iu137:UT Tryz.prog 137 Tryz.t137.desc:=⟨Tryz.underlying137⟩
instance ii137:TI Tryz.prog 137 Value.nilFunc 1 8:=⟨by kernel_rfl⟩
instance iu138:UT Tryz.prog 138 Tryz.t138.desc:=⟨Tryz.underlying138⟩
instance ii138:TI Tryz.prog 138 Value.nilFunc 1 8:=⟨by kernel_rfl⟩
instance iu139:UT Tryz.prog 139 Tryz.t139.desc:=⟨Tryz.underlying139⟩
instance ii139:TI Tryz.prog 139 Value.nilFunc 1 8:=⟨by kernel_rfl⟩
instance iu140:UT Tryz.prog 140 Tryz.t140.desc:=⟨Tryz.underlying140⟩
instance ii140:TI Tryz.prog 140 Value.nilFunc 1 8:=⟨by kernel_rfl⟩
instance iu141:UT Tryz.prog 141 Tryz.t141.desc:=⟨Tryz.underlying141⟩
instance ii141:TI Tryz.prog 141 Value.nilFunc 1 8:=⟨by kernel_rfl⟩
instance iu142:UT Tryz.prog 142 Tryz.t142.desc:=⟨Tryz.underlying142⟩
instance ii142:TI Tryz.prog 142 Value.nilFunc 1 8:=⟨by kernel_rfl⟩
instance iu143:UT Tryz.prog 143 Tryz.t143.desc:=⟨Tryz.underlying143⟩
instance ii143:TI Tryz.prog 143 (Value.agg #[Value.string { data:=#[] },Value.int IntKind.i64 0]) 2 24:=⟨by kernel_rfl⟩
instance ib143:BT Tryz.prog 143 [(0,1),(1,1)]:=⟨⟨_,Tryz.underlying143,by kernel_rfl⟩⟩
instance is143_0:SF Tryz.prog 143 0 0 9:=⟨⟨_,_,Tryz.underlying143,rfl,rfl,rfl⟩⟩
instance is143_1:SF Tryz.prog 143 1 1 3:=⟨⟨_,_,Tryz.underlying143,rfl,rfl,rfl⟩⟩
instance iu144:UT Tryz.prog 144 Tryz.t143.desc:=⟨Tryz.underlying144⟩
instance ii144:TI Tryz.prog 144 (Value.agg #[Value.string { data:=#[] },Value.int IntKind.i64 0]) 2 24:=⟨by kernel_rfl⟩
instance ib144:BT Tryz.prog 144 [(0,1),(1,1)]:=⟨⟨_,Tryz.underlying144,by kernel_rfl⟩⟩
instance is144_0:SF Tryz.prog 144 0 0 9:=⟨⟨_,_,Tryz.underlying144,rfl,rfl,rfl⟩⟩
instance is144_1:SF Tryz.prog 144 1 1 3:=⟨⟨_,_,Tryz.underlying144,rfl,rfl,rfl⟩⟩
instance iu145:UT Tryz.prog 145 Tryz.t145.desc:=⟨Tryz.underlying145⟩
instance ii145:TI Tryz.prog 145 (Value.agg #[Value.int IntKind.i64 0,Value.int IntKind.i64 0,Value.int IntKind.i64 0]) 3 24:=⟨by kernel_rfl⟩
instance ib145:BT Tryz.prog 145 [(0,1),(1,1),(2,1)]:=⟨⟨_,Tryz.underlying145,by kernel_rfl⟩⟩
instance is145_0:SF Tryz.prog 145 0 0 3:=⟨⟨_,_,Tryz.underlying145,rfl,rfl,rfl⟩⟩
instance is145_1:SF Tryz.prog 145 1 1 3:=⟨⟨_,_,Tryz.underlying145,rfl,rfl,rfl⟩⟩
instance is145_2:SF Tryz.prog 145 2 2 3:=⟨⟨_,_,Tryz.underlying145,rfl,rfl,rfl⟩⟩
instance iu146:UT Tryz.prog 146 Tryz.t145.desc:=⟨Tryz.underlying146⟩
instance ii146:TI Tryz.prog 146 (Value.agg #[Value.int IntKind.i64 0,Value.int IntKind.i64 0,Value.int IntKind.i64 0]) 3 24:=⟨by kernel_rfl⟩
instance ib146:BT Tryz.prog 146 [(0,1),(1,1),(2,1)]:=⟨⟨_,Tryz.underlying146,by kernel_rfl⟩⟩
instance is146_0:SF Tryz.prog 146 0 0 3:=⟨⟨_,_,Tryz.underlying146,rfl,rfl,rfl⟩⟩
instance is146_1:SF Tryz.prog 146 1 1 3:=⟨⟨_,_,Tryz.underlying146,rfl,rfl,rfl⟩⟩
instance is146_2:SF Tryz.prog 146 2 2 3:=⟨⟨_,_,Tryz.underlying146,rfl,rfl,rfl⟩⟩
instance iu147:UT Tryz.prog 147 Tryz.t147.desc:=⟨Tryz.underlying147⟩
instance ii147:TI Tryz.prog 147 (Value.agg #[Value.string { data:=#[] },Value.string { data:=#[] }]) 2 32:=⟨by kernel_rfl⟩
instance ib147:BT Tryz.prog 147 [(0,1),(1,1)]:=⟨⟨_,Tryz.underlying147,by kernel_rfl⟩⟩
instance is147_0:SF Tryz.prog 147 0 0 9:=⟨⟨_,_,Tryz.underlying147,rfl,rfl,rfl⟩⟩
instance is147_1:SF Tryz.prog 147 1 1 9:=⟨⟨_,_,Tryz.underlying147,rfl,rfl,rfl⟩⟩
instance iu148:UT Tryz.prog 148 Tryz.t147.desc:=⟨Tryz.underlying148⟩
instance ii148:TI Tryz.prog 148 (Value.agg #[Value.string { data:=#[] },Value.string { data:=#[] }]) 2 32:=⟨by kernel_rfl⟩
instance ib148:BT Tryz.prog 148 [(0,1),(1,1)]:=⟨⟨_,Tryz.underlying148,by kernel_rfl⟩⟩
instance is148_0:SF Tryz.prog 148 0 0 9:=⟨⟨_,_,Tryz.underlying148,rfl,rfl,rfl⟩⟩
instance is148_1:SF Tryz.prog 148 1 1 9:=⟨⟨_,_,Tryz.underlying148,rfl,rfl,rfl⟩⟩
instance iu149:UT Tryz.prog 149 Tryz.t149.desc:=⟨Tryz.underlying149⟩
instance ii149:TI Tryz.prog 149 Value.nilFunc 1 8:=⟨by kernel_rfl⟩
instance iu150:UT Tryz.prog 150 Tryz.t150.desc:=⟨Tryz.underlying150⟩
instance ii150:TI Tryz.prog 150 Value.nilFunc 1 8:=⟨by kernel_rfl⟩
instance iu151:UT Tryz.prog 151 Tryz.t151.desc:=⟨Tryz.underlying151⟩
instance ii151:TI Tryz.prog 151 (Value.agg #[]) 0 0:=⟨by kernel_rfl⟩
instance ib151:BT Tryz.prog 151 []:=⟨⟨_,Tryz.underlying151,by kernel_rfl⟩⟩
instance iu152:UT Tryz.prog 152 Tryz.t151.desc:=⟨Tryz.underlying152⟩
instance ii152:TI Tryz.prog 152 (Value.agg #[]) 0 0:=⟨by kernel_rfl⟩
instance ib152:BT Tryz.prog 152 []:=⟨⟨_,Tryz.underlying152,by kernel_rfl⟩⟩
instance iu153:UT Tryz.prog 153 Tryz.t153.desc:=⟨Tryz.underlying153⟩
instance ii153:TI Tryz.prog 153 Value.nilFunc 1 8:=⟨by kernel_rfl⟩
instance iu154:UT Tryz.prog 154 Tryz.t154.desc:=⟨Tryz.underlying154⟩
instance ii154:TI Tryz.prog 154 (Value.agg #[Value.slice none 0 0,Value.string { data:=#[] },Value.slice none 0 0,Value.slice none 0 0,Value.slice none 0 0,Value.int IntKind.i64 0,Value.slice none 0 0,Value.slice none 0 0,Value.slice none 0 0,Value.slice none 0 0]) 10 216:=⟨by kernel_rfl⟩
instance ib154:BT Tryz.prog 154 [(0,9),(9,1)]:=⟨⟨_,Tryz.underlying154,by kernel_rfl⟩⟩
instance is154_0:SF Tryz.prog 154 0 0 37:=⟨⟨_,_,Tryz.underlying154,rfl,rfl,rfl⟩⟩
instance is154_1:SF Tryz.prog 154 1 9 32:=⟨⟨_,_,Tryz.underlying154,rfl,rfl,rfl⟩⟩
instance iu155:UT Tryz.prog 155 Tryz.t154.desc:=⟨Tryz.underlying155⟩
instance ii155:TI Tryz.prog 155 (Value.agg #[Value.slice none 0 0,Value.string { data:=#[] },Value.slice none 0 0,Value.slice none 0 0,Value.slice none 0 0,Value.int IntKind.i64 0,Value.slice none 0 0,Value.slice none 0 0,Value.slice none 0 0,Value.slice none 0 0]) 10 216:=⟨by kernel_rfl⟩
instance ib155:BT Tryz.prog 155 [(0,9),(9,1)]:=⟨⟨_,Tryz.underlying155,by kernel_rfl⟩⟩
instance is155_0:SF Tryz.prog 155 0 0 37:=⟨⟨_,_,Tryz.underlying155,rfl,rfl,rfl⟩⟩
instance is155_1:SF Tryz.prog 155 1 9 32:=⟨⟨_,_,Tryz.underlying155,rfl,rfl,rfl⟩⟩
instance iu156:UT Tryz.prog 156 (TypeDesc.slice 159):=⟨Tryz.underlying156⟩
instance ii156:TI Tryz.prog 156 (Value.slice none 0 0) 1 24:=⟨by kernel_rfl⟩
instance iu157:UT Tryz.prog 157 Tryz.t157.desc:=⟨Tryz.underlying157⟩
instance ii157:TI Tryz.prog 157 Value.nilFunc 1 8:=⟨by kernel_rfl⟩
instance iu158:UT Tryz.prog 158 Tryz.t158.desc:=⟨Tryz.underlying158⟩
instance ii158:TI Tryz.prog 158 (Value.agg #[Value.slice none 0 0]) 1 24:=⟨by kernel_rfl⟩
instance ib158:BT Tryz.prog 158 [(0,1)]:=⟨⟨_,Tryz.underlying158,by kernel_rfl⟩⟩
instance is158_0:SF Tryz.prog 158 0 0 127:=⟨⟨_,_,Tryz.underlying158,rfl,rfl,rfl⟩⟩
instance iu159:UT Tryz.prog 159 Tryz.t158.desc:=⟨Tryz.underlying159⟩
instance ii159:TI Tryz.prog 159 (Value.agg #[Value.slice none 0 0]) 1 24:=⟨by kernel_rfl⟩
instance ib159:BT Tryz.prog 159 [(0,1)]:=⟨⟨_,Tryz.underlying159,by kernel_rfl⟩⟩
instance is159_0:SF Tryz.prog 159 0 0 127:=⟨⟨_,_,Tryz.underlying159,rfl,rfl,rfl⟩⟩
instance iu160:UT Tryz.prog 160 Tryz.t160.desc:=⟨Tryz.underlying160⟩
instance ii160:TI Tryz.prog 160 Value.nilFunc 1 8:=⟨by kernel_rfl⟩
instance iu161:UT Tryz.prog 161 (TypeDesc.slice 5):=⟨Tryz.underlying161⟩
instance ii161:TI Tryz.prog 161 (Value.slice none 0 0) 1 24:=⟨by kernel_rfl⟩
instance iu162:UT Tryz.prog 162 Tryz.t162.desc:=⟨Tryz.underlying162⟩
instance ii162:TI Tryz.prog 162 Value.nilFunc 1 8:=⟨by kernel_rfl⟩
instance iu163:UT Tryz.prog 163 Tryz.t163.desc:=⟨Tryz.underlying163⟩
instance ii163:TI Tryz.prog 163 (Value.tuple #[Value.slice none 0 0,Value.bool false]) 1 0:=⟨by kernel_rfl⟩
instance iu164:UT Tryz.prog 164 Tryz.t164.desc:=⟨Tryz.underlying164⟩
instance ii164:TI Tryz.prog 164 Value.nilFunc 1 8:=⟨by kernel_rfl⟩
instance iu165:UT Tryz.prog 165 Tryz.t165.desc:=⟨Tryz.underlying165⟩
instance ii165:TI Tryz.prog 165 Value.nilFunc 1 8:=⟨by kernel_rfl⟩
instance iu166:UT Tryz.prog 166 Tryz.t166.desc:=⟨Tryz.underlying166⟩
instance ii166:TI Tryz.prog 166 Value.nilFunc 1 8:=⟨by kernel_rfl⟩
instance iu167:UT Tryz.prog 167 Tryz.t167.desc:=⟨Tryz.underlying167⟩
instance ii167:TI Tryz.prog 167 Value.nilFunc 1 8:=⟨by kernel_rfl⟩
instance iu168:UT Tryz.prog 168 Tryz.t168.desc:=⟨Tryz.underlying168⟩
instance ii168:TI Tryz.prog 168 Value.nilFunc 1 8:=⟨by kernel_rfl⟩
instance iu169:UT Tryz.prog 169 Tryz.t169.desc:=⟨Tryz.underlying169⟩
instance ii169:TI Tryz.prog 169 Value.nilFunc 1 8:=⟨by kernel_rfl⟩
instance iu170:UT Tryz.prog 170 Tryz.t169.desc:=⟨Tryz.underlying170⟩
instance ii170:TI Tryz.prog 170 Value.nilFunc 1 8:=⟨by kernel_rfl⟩
instance iu171:UT Tryz.prog 171 Tryz.t171.desc:=⟨Tryz.underlying171⟩
instance ii171:TI Tryz.prog 171 Value.nilFunc 1 8:=⟨by kernel_rfl⟩
instance iu172:UT Tryz.prog 172 Tryz.t172.desc:=⟨Tryz.underlying172⟩
instance ii172:TI Tryz.prog 172 Value.nilFunc 1 8:=⟨by kernel_rfl⟩
instance iu173:UT Tryz.prog 173 (TypeDesc.pointer 178):=⟨Tryz.underlying173⟩
instance ii173:TI Tryz.prog 173 (Value.pointer none) 1 8:=⟨by kernel_rfl⟩
instance iu174:UT Tryz.prog 174 Tryz.t174.desc:=⟨Tryz.underlying174⟩
instance ii174:TI Tryz.prog 174 Value.nilFunc 1 8:=⟨by kernel_rfl⟩
instance iu175:UT Tryz.prog 175 (TypeDesc.map 9 4):=⟨Tryz.underlying175⟩
instance ii175:TI Tryz.prog 175 (Value.map none) 1 8:=⟨by kernel_rfl⟩
instance iu176:UT Tryz.prog 176 (TypeDesc.int IntKind.u32):=⟨Tryz.underlying176⟩
instance ii176:TI Tryz.prog 176 (Value.int IntKind.u32 0) 1 4:=⟨by kernel_rfl⟩
instance iu177:UT Tryz.prog 177 Tryz.t177.desc:=⟨Tryz.underlying177⟩
instance ii177:TI Tryz.prog 177 (Value.agg #[Value.slice none 0 0,Value.string { data:=#[] },Value.slice none 0 0,Value.slice none 0 0,Value.slice none 0 0,Value.int IntKind.i64 0,Value.slice none 0 0,Value.slice none 0 0,Value.slice none 0 0,Value.slice none 0 0,Value.bool false,Value.int IntKind.u32 0,Value.map none,Value.nilFunc]) 14 240:=⟨by kernel_rfl⟩
instance ib177:BT Tryz.prog 177 [(0,9),(9,1),(10,1),(11,1),(12,1),(13,1)]:=⟨⟨_,Tryz.underlying177,by kernel_rfl⟩⟩
instance is177_0:SF Tryz.prog 177 0 0 37:=⟨⟨_,_,Tryz.underlying177,rfl,rfl,rfl⟩⟩
instance is177_1:SF Tryz.prog 177 1 9 32:=⟨⟨_,_,Tryz.underlying177,rfl,rfl,rfl⟩⟩
instance is177_2:SF Tryz.prog 177 2 10 4:=⟨⟨_,_,Tryz.underlying177,rfl,rfl,rfl⟩⟩
instance is177_3:SF Tryz.prog 177 3 11 176:=⟨⟨_,_,Tryz.underlying177,rfl,rfl,rfl⟩⟩
instance is177_4:SF Tryz.prog 177 4 12 175:=⟨⟨_,_,Tryz.underlying177,rfl,rfl,rfl⟩⟩
instance is177_5:SF Tryz.prog 177 5 13 130:=⟨⟨_,_,Tryz.underlying177,rfl,rfl,rfl⟩⟩
instance iu178:UT Tryz.prog 178 Tryz.t177.desc:=⟨Tryz.underlying178⟩
instance ii178:TI Tryz.prog 178 (Value.agg #[Value.slice none 0 0,Value.string { data:=#[] },Value.slice none 0 0,Value.slice none 0 0,Value.slice none 0 0,Value.int IntKind.i64 0,Value.slice none 0 0,Value.slice none 0 0,Value.slice none 0 0,Value.slice none 0 0,Value.bool false,Value.int IntKind.u32 0,Value.map none,Value.nilFunc]) 14 240:=⟨by kernel_rfl⟩
instance ib178:BT Tryz.prog 178 [(0,9),(9,1),(10,1),(11,1),(12,1),(13,1)]:=⟨⟨_,Tryz.underlying178,by kernel_rfl⟩⟩
instance is178_0:SF Tryz.prog 178 0 0 37:=⟨⟨_,_,Tryz.underlying178,rfl,rfl,rfl⟩⟩
instance is178_1:SF Tryz.prog 178 1 9 32:=⟨⟨_,_,Tryz.underlying178,rfl,rfl,rfl⟩⟩
instance is178_2:SF Tryz.prog 178 2 10 4:=⟨⟨_,_,Tryz.underlying178,rfl,rfl,rfl⟩⟩
instance is178_3:SF Tryz.prog 178 3 11 176:=⟨⟨_,_,Tryz.underlying178,rfl,rfl,rfl⟩⟩
instance is178_4:SF Tryz.prog 178 4 12 175:=⟨⟨_,_,Tryz.underlying178,rfl,rfl,rfl⟩⟩
instance is178_5:SF Tryz.prog 178 5 13 130:=⟨⟨_,_,Tryz.underlying178,rfl,rfl,rfl⟩⟩
instance iu179:UT Tryz.prog 179 Tryz.t179.desc:=⟨Tryz.underlying179⟩
instance ii179:TI Tryz.prog 179 Value.nilFunc 1 8:=⟨by kernel_rfl⟩
instance iu180:UT Tryz.prog 180 Tryz.t180.desc:=⟨Tryz.underlying180⟩
instance ii180:TI Tryz.prog 180 Value.nilFunc 1 8:=⟨by kernel_rfl⟩
instance iu181:UT Tryz.prog 181 Tryz.t181.desc:=⟨Tryz.underlying181⟩
instance ii181:TI Tryz.prog 181 Value.nilFunc 1 8:=⟨by kernel_rfl⟩
instance iu182:UT Tryz.prog 182 (TypeDesc.pointer 80):=⟨Tryz.underlying182⟩
instance ii182:TI Tryz.prog 182 (Value.pointer none) 1 8:=⟨by kernel_rfl⟩
instance iu183:UT Tryz.prog 183 Tryz.t183.desc:=⟨Tryz.underlying183⟩
instance ii183:TI Tryz.prog 183 Value.nilFunc 1 8:=⟨by kernel_rfl⟩
instance iu184:UT Tryz.prog 184 Tryz.t184.desc:=⟨Tryz.underlying184⟩
instance ii184:TI Tryz.prog 184 Value.nilFunc 1 8:=⟨by kernel_rfl⟩
instance iu185:UT Tryz.prog 185 Tryz.t185.desc:=⟨Tryz.underlying185⟩
instance ii185:TI Tryz.prog 185 Value.nilFunc 1 8:=⟨by kernel_rfl⟩
instance iu186:UT Tryz.prog 186 Tryz.t186.desc:=⟨Tryz.underlying186⟩
instance ii186:TI Tryz.prog 186 Value.nilFunc 1 8:=⟨by kernel_rfl⟩
instance iu187:UT Tryz.prog 187 Tryz.t187.desc:=⟨Tryz.underlying187⟩
instance ii187:TI Tryz.prog 187 Value.nilFunc 1 8:=⟨by kernel_rfl⟩
instance iu188:UT Tryz.prog 188 Tryz.t188.desc:=⟨Tryz.underlying188⟩
instance ii188:TI Tryz.prog 188 Value.nilFunc 1 8:=⟨by kernel_rfl⟩
instance iu189:UT Tryz.prog 189 Tryz.t189.desc:=⟨Tryz.underlying189⟩
instance ii189:TI Tryz.prog 189 Value.nilFunc 1 8:=⟨by kernel_rfl⟩
instance iu190:UT Tryz.prog 190 Tryz.t190.desc:=⟨Tryz.underlying190⟩
instance ii190:TI Tryz.prog 190 Value.nilFunc 1 8:=⟨by kernel_rfl⟩
instance iu191:UT Tryz.prog 191 Tryz.t191.desc:=⟨Tryz.underlying191⟩
instance ii191:TI Tryz.prog 191 Value.nilFunc 1 8:=⟨by kernel_rfl⟩
instance iu192:UT Tryz.prog 192 Tryz.t192.desc:=⟨Tryz.underlying192⟩
instance ii192:TI Tryz.prog 192 Value.nilFunc 1 8:=⟨by kernel_rfl⟩
instance iu193:UT Tryz.prog 193 Tryz.t193.desc:=⟨Tryz.underlying193⟩
instance ii193:TI Tryz.prog 193 Value.nilFunc 1 8:=⟨by kernel_rfl⟩
instance iu194:UT Tryz.prog 194 Tryz.t193.desc:=⟨Tryz.underlying194⟩
instance ii194:TI Tryz.prog 194 Value.nilFunc 1 8:=⟨by kernel_rfl⟩
instance iu195:UT Tryz.prog 195 Tryz.t195.desc:=⟨Tryz.underlying195⟩
instance ii195:TI Tryz.prog 195 Value.nilFunc 1 8:=⟨by kernel_rfl⟩
instance iu196:UT Tryz.prog 196 Tryz.t196.desc:=⟨Tryz.underlying196⟩
instance ii196:TI Tryz.prog 196 Value.nilFunc 1 8:=⟨by kernel_rfl⟩
instance iu197:UT Tryz.prog 197 Tryz.t197.desc:=⟨Tryz.underlying197⟩
instance ii197:TI Tryz.prog 197 Value.nilFunc 1 8:=⟨by kernel_rfl⟩
instance iu198:UT Tryz.prog 198 Tryz.t198.desc:=⟨Tryz.underlying198⟩
instance ii198:TI Tryz.prog 198 Value.nilFunc 1 8:=⟨by kernel_rfl⟩
instance iu199:UT Tryz.prog 199 Tryz.t199.desc:=⟨Tryz.underlying199⟩
instance ii199:TI Tryz.prog 199 Value.nilFunc 1 8:=⟨by kernel_rfl⟩
instance iu200:UT Tryz.prog 200 Tryz.t200.desc:=⟨Tryz.underlying200⟩
instance ii200:TI Tryz.prog 200 Value.nilFunc 1 8:=⟨by kernel_rfl⟩
instance iu201:UT Tryz.prog 201 Tryz.t201.desc:=⟨Tryz.underlying201⟩
instance ii201:TI Tryz.prog 201 Value.nilFunc 1 8:=⟨by kernel_rfl⟩
instance iu202:UT Tryz.prog 202 Tryz.t202.desc:=⟨Tryz.underlying202⟩
instance ii202:TI Tryz.prog 202 Value.nilFunc 1 8:=⟨by kernel_rfl⟩
instance iu203:UT Tryz.prog 203 Tryz.t203.desc:=⟨Tryz.underlying203⟩
instance ii203:TI Tryz.prog 203 Value.nilFunc 1 8:=⟨by kernel_rfl⟩
instance iu204:UT Tryz.prog 204 Tryz.t204.desc:=⟨Tryz.underlying204⟩
instance ii204:TI Tryz.prog 204 Value.nilFunc 1 8:=⟨by kernel_rfl⟩
instance iu205:UT Tryz.prog 205 Tryz.t205.desc:=⟨Tryz.underlying205⟩
instance ii205:TI Tryz.prog 205 Value.nilFunc 1 8:=⟨by kernel_rfl⟩
instance iu206:UT Tryz.prog 206 Tryz.t206.desc:=⟨Tryz.underlying206⟩
instance ii206:TI Tryz.prog 206 Value.nilFunc 1 8:=⟨by kernel_rfl⟩
instance iu207:UT Tryz.prog 207 Tryz.t207.desc:=⟨Tryz.underlying207⟩
instance ii207:TI Tryz.prog 207 Value.nilFunc 1 8:=⟨by kernel_rfl⟩
instance iu208:UT Tryz.prog 208 Tryz.t208.desc:=⟨Tryz.underlying208⟩
instance ii208:TI Tryz.prog 208 Value.nilFunc 1 8:=⟨by kernel_rfl⟩
instance iu209:UT Tryz.prog 209 Tryz.t209.desc:=⟨Tryz.underlying209⟩
instance ii209:TI Tryz.prog 209 Value.nilFunc 1 8:=⟨by kernel_rfl⟩
instance iu210:UT Tryz.prog 210 Tryz.t210.desc:=⟨Tryz.underlying210⟩
instance ii210:TI Tryz.prog 210 Value.nilFunc 1 8:=⟨by kernel_rfl⟩
instance iu211:UT Tryz.prog 211 Tryz.t211.desc:=⟨Tryz.underlying211⟩
instance ii211:TI Tryz.prog 211 (Value.agg #[Value.int IntKind.i64 0,Value.int IntKind.i64 0]) 2 16:=⟨by kernel_rfl⟩
instance ib211:BT Tryz.prog 211 [(0,1),(1,1)]:=⟨⟨_,Tryz.underlying211,by kernel_rfl⟩⟩
instance is211_0:SF Tryz.prog 211 0 0 3:=⟨⟨_,_,Tryz.underlying211,rfl,rfl,rfl⟩⟩
instance is211_1:SF Tryz.prog 211 1 1 3:=⟨⟨_,_,Tryz.underlying211,rfl,rfl,rfl⟩⟩
instance iu212:UT Tryz.prog 212 Tryz.t211.desc:=⟨Tryz.underlying212⟩
instance ii212:TI Tryz.prog 212 (Value.agg #[Value.int IntKind.i64 0,Value.int IntKind.i64 0]) 2 16:=⟨by kernel_rfl⟩
instance ib212:BT Tryz.prog 212 [(0,1),(1,1)]:=⟨⟨_,Tryz.underlying212,by kernel_rfl⟩⟩
instance is212_0:SF Tryz.prog 212 0 0 3:=⟨⟨_,_,Tryz.underlying212,rfl,rfl,rfl⟩⟩
instance is212_1:SF Tryz.prog 212 1 1 3:=⟨⟨_,_,Tryz.underlying212,rfl,rfl,rfl⟩⟩
instance iu213:UT Tryz.prog 213 Tryz.t213.desc:=⟨Tryz.underlying213⟩
instance ii213:TI Tryz.prog 213 Value.nilFunc 1 8:=⟨by kernel_rfl⟩
instance iu214:UT Tryz.prog 214 Tryz.t214.desc:=⟨Tryz.underlying214⟩
instance ii214:TI Tryz.prog 214 Value.nilFunc 1 8:=⟨by kernel_rfl⟩
instance iu215:UT Tryz.prog 215 Tryz.t215.desc:=⟨Tryz.underlying215⟩
instance ii215:TI Tryz.prog 215 Value.nilFunc 1 8:=⟨by kernel_rfl⟩
instance iu216:UT Tryz.prog 216 Tryz.t216.desc:=⟨Tryz.underlying216⟩
instance ii216:TI Tryz.prog 216 Value.nilFunc 1 8:=⟨by kernel_rfl⟩
instance iu217:UT Tryz.prog 217 Tryz.t217.desc:=⟨Tryz.underlying217⟩
instance ii217:TI Tryz.prog 217 Value.nilFunc 1 8:=⟨by kernel_rfl⟩
instance iu218:UT Tryz.prog 218 Tryz.t218.desc:=⟨Tryz.underlying218⟩
instance ii218:TI Tryz.prog 218 Value.nilFunc 1 8:=⟨by kernel_rfl⟩
instance iu219:UT Tryz.prog 219 Tryz.t219.desc:=⟨Tryz.underlying219⟩
instance ii219:TI Tryz.prog 219 Value.nilFunc 1 8:=⟨by kernel_rfl⟩
instance iu220:UT Tryz.prog 220 Tryz.t220.desc:=⟨Tryz.underlying220⟩
instance ii220:TI Tryz.prog 220 Value.nilFunc 1 8:=⟨by kernel_rfl⟩
instance iu221:UT Tryz.prog 221 Tryz.t221.desc:=⟨Tryz.underlying221⟩
instance ii221:TI Tryz.prog 221 Value.nilFunc 1 8:=⟨by kernel_rfl⟩
instance iu222:UT Tryz.prog 222 Tryz.t222.desc:=⟨Tryz.underlying222⟩
instance ii222:TI Tryz.prog 222 Value.nilFunc 1 8:=⟨by kernel_rfl⟩
instance iu223:UT Tryz.prog 223 Tryz.t223.desc:=⟨Tryz.underlying223⟩
instance ii223:TI Tryz.prog 223 Value.nilFunc 1 8:=⟨by kernel_rfl⟩
instance iu224:UT Tryz.prog 224 (TypeDesc.array 256 5):=⟨Tryz.underlying224⟩
instance ii224:TI Tryz.prog 224 (Value.agg (([Value.int IntKind.u8 0,Value.int IntKind.u8 0,Value.int IntKind.u8 0,Value.int IntKind.u8 0,Value.int IntKind.u8 0,Value.int IntKind.u8 0,Value.int IntKind.u8 0,Value.int IntKind.u8 0,Value.int IntKind.u8 0,Value.int IntKind.u8 0,Value.int IntKind.u8 0,Value.int IntKind.u8 0,Value.int IntKind.u8 0,Value.int IntKind.u8 0,Value.int IntKind.u8 0,Value.int IntKind.u8 0,Value.int IntKind.u8 0,Value.int IntKind.u8 0,Value.int IntKind.u8 0,Value.int IntKind.u8 0,Value.int IntKind.u8 0,Value.int IntKind.u8 0,Value.int IntKind.u8 0,Value.int IntKind.u8 0,Value.int IntKind.u8 0,Value.int IntKind.u8 0,Value.int IntKind.u8 0,Value.int IntKind.u8 0,Value.int IntKind.u8 0,Value.int IntKind.u8 0,Value.int IntKind.u8 0,Value.int IntKind.u8 0,Value.int IntKind.u8 0,Value.int IntKind.u8 0,Value.int IntKind.u8 0,Value.int IntKind.u8 0,Value.int IntKind.u8 0,Value.int IntKind.u8 0,Value.int IntKind.u8 0,Value.int IntKind.u8 0,Value.int IntKind.u8 0,Value.int IntKind.u8 0,Value.int IntKind.u8 0,Value.int IntKind.u8 0,Value.int IntKind.u8 0,Value.int IntKind.u8 0,Value.int IntKind.u8 0,Value.int IntKind.u8 0,Value.int IntKind.u8 0,Value.int IntKind.u8 0,Value.int IntKind.u8 0,Value.int IntKind.u8 0,Value.int IntKind.u8 0,Value.int IntKind.u8 0,Value.int IntKind.u8 0,Value.int IntKind.u8 0,Value.int IntKind.u8 0,Value.int IntKind.u8 0,Value.int IntKind.u8 0,Value.int IntKind.u8 0,Value.int IntKind.u8 0,Value.int IntKind.u8 0,Value.int IntKind.u8 0,Value.int IntKind.u8 0].append [Value.int IntKind.u8 0,Value.int IntKind.u8 0,Value.int IntKind.u8 0,Value.int IntKind.u8 0,Value.int IntKind.u8 0,Value.int IntKind.u8 0,Value.int IntKind.u8 0,Value.int IntKind.u8 0,Value.int IntKind.u8 0,Value.int IntKind.u8 0,Value.int IntKind.u8 0,Value.int IntKind.u8 0,Value.int IntKind.u8 0,Value.int IntKind.u8 0,Value.int IntKind.u8 0,Value.int IntKind.u8 0,Value.int IntKind.u8 0,Value.int IntKind.u8 0,Value.int IntKind.u8 0,Value.int IntKind.u8 0,Value.int IntKind.u8 0,Value.int IntKind.u8 0,Value.int IntKind.u8 0,Value.int IntKind.u8 0,Value.int IntKind.u8 0,Value.int IntKind.u8 0,Value.int IntKind.u8 0,Value.int IntKind.u8 0,Value.int IntKind.u8 0,Value.int IntKind.u8 0,Value.int IntKind.u8 0,Value.int IntKind.u8 0,Value.int IntKind.u8 0,Value.int IntKind.u8 0,Value.int IntKind.u8 0,Value.int IntKind.u8 0,Value.int IntKind.u8 0,Value.int IntKind.u8 0,Value.int IntKind.u8 0,Value.int IntKind.u8 0,Value.int IntKind.u8 0,Value.int IntKind.u8 0,Value.int IntKind.u8 0,Value.int IntKind.u8 0,Value.int IntKind.u8 0,Value.int IntKind.u8 0,Value.int IntKind.u8 0,Value.int IntKind.u8 0,Value.int IntKind.u8 0,Value.int IntKind.u8 0,Value.int IntKind.u8 0,Value.int IntKind.u8 0,Value.int IntKind.u8 0,Value.int IntKind.u8 0,Value.int IntKind.u8 0,Value.int IntKind.u8 0,Value.int IntKind.u8 0,Value.int IntKind.u8 0,Value.int IntKind.u8 0,Value.int IntKind.u8 0,Value.int IntKind.u8 0,Value.int IntKind.u8 0,Value.int IntKind.u8 0,Value.int IntKind.u8 0]).append ([Value.int IntKind.u8 0,Value.int IntKind.u8 0,Value.int IntKind.u8 0,Value.int IntKind.u8 0,Value.int IntKind.u8 0,Value.int IntKind.u8 0,Value.int IntKind.u8 0,Value.int IntKind.u8 0,Value.int IntKind.u8 0,Value.int IntKind.u8 0,Value.int IntKind.u8 0,Value.int IntKind.u8 0,Value.int IntKind.u8 0,Value.int IntKind.u8 0,Value.int IntKind.u8 0,Value.int IntKind.u8 0,Value.int IntKind.u8 0,Value.int IntKind.u8 0,Value.int IntKind.u8 0,Value.int IntKind.u8 0,Value.int IntKind.u8 0,Value.int IntKind.u8 0,Value.int IntKind.u8 0,Value.int IntKind.u8 0,Value.int IntKind.u8 0,Value.int IntKind.u8 0,Value.int IntKind.u8 0,Value.int IntKind.u8 0,Value.int IntKind.u8 0,Value.int IntKind.u8 0,Value.int IntKind.u8 0,Value.int IntKind.u8 0,Value.int IntKind.u8 0,Value.int IntKind.u8 0,Value.int IntKind.u8 0,Value.int IntKind.u8 0,Value.int IntKind.u8 0,Value.int IntKind.u8 0,Value.int IntKind.u8 0,Value.int IntKind.u8 0,Value.int IntKind.u8 0,Value.int IntKind.u8 0,Value.int IntKind.u8 0,Value.int IntKind.u8 0,Value.int IntKind.u8 0,Value.int IntKind.u8 0,Value.int IntKind.u8 0,Value.int IntKind.u8 0,Value.int IntKind.u8 0,Value.int IntKind.u8 0,Value.int IntKind.u8 0,Value.int IntKind.u8 0,Value.int IntKind.u8 0,Value.int IntKind.u8 0,Value.int IntKind.u8 0,Value.int IntKind.u8 0,Value.int IntKind.u8 0,Value.int IntKind.u8 0,Value.int IntKind.u8 0,Value.int IntKind.u8 0,Value.int IntKind.u8 0,Value.int IntKind.u8 0,Value.int IntKind.u8 0,Value.int IntKind.u8 0].append [Value.int IntKind.u8 0,Value.int IntKind.u8 0,Value.int IntKind.u8 0,Value.int IntKind.u8 0,Value.int IntKind.u8 0,Value.int IntKind.u8 0,Value.int IntKind.u8 0,Value.int IntKind.u8 0,Value.int IntKind.u8 0,Value.int IntKind.u8 0,Value.int IntKind.u8 0,Value.int IntKind.u8 0,Value.int IntKind.u8 0,Value.int IntKind.u8 0,Value.int IntKind.u8 0,Value.int IntKind.u8 0,Value.int IntKind.u8 0,Value.int IntKind.u8 0,Value.int IntKind.u8 0,Value.int IntKind.u8 0,Value.int IntKind.u8 0,Value.int IntKind.u8 0,Value.int IntKind.u8 0,Value.int IntKind.u8 0,Value.int IntKind.u8 0,Value.int IntKind.u8 0,Value.int IntKind.u8 0,Value.int IntKind.u8 0,Value.int IntKind.u8 0,Value.int IntKind.u8 0,Value.int IntKind.u8 0,Value.int IntKind.u8 0,Value.int IntKind.u8 0,Value.int IntKind.u8 0,Value.int IntKind.u8 0,Value.int IntKind.u8 0,Value.int IntKind.u8 0,Value.int IntKind.u8 0,Value.int IntKind.u8 0,Value.int IntKind.u8 0,Value.int IntKind.u8 0,Value.int IntKind.u8 0,Value.int IntKind.u8 0,Value.int IntKind.u8 0,Value.int IntKind.u8 0,Value.int IntKind.u8 0,Value.int IntKind.u8 0,Value.int IntKind.u8 0,Value.int IntKind.u8 0,Value.int IntKind.u8 0,Value.int IntKind.u8 0,Value.int IntKind.u8 0,Value.int IntKind.u8 0,Value.int IntKind.u8 0,Value.int IntKind.u8 0,Value.int IntKind.u8 0,Value.int IntKind.u8 0,Value.int IntKind.u8 0,Value.int IntKind.u8 0,Value.int IntKind.u8 0,Value.int IntKind.u8 0,Value.int IntKind.u8 0,Value.int IntKind.u8 0,Value.int IntKind.u8 0])).toArray) 256 256:=⟨by kernel_rfl⟩
instance iu225:UT Tryz.prog 225 Tryz.t225.desc:=⟨Tryz.underlying225⟩
instance ii225:TI Tryz.prog 225 (Value.agg #[Value.int IntKind.u8 0,Value.int IntKind.u8 0]) 2 2:=⟨by kernel_rfl⟩
instance ib225:BT Tryz.prog 225 [(0,1),(1,1)]:=⟨⟨_,Tryz.underlying225,by kernel_rfl⟩⟩
instance is225_0:SF Tryz.prog 225 0 0 5:=⟨⟨_,_,Tryz.underlying225,rfl,rfl,rfl⟩⟩
instance is225_1:SF Tryz.prog 225 1 1 5:=⟨⟨_,_,Tryz.underlying225,rfl,rfl,rfl⟩⟩
instance iu226:UT Tryz.prog 226 Tryz.t225.desc:=⟨Tryz.underlying226⟩
instance ii226:TI Tryz.prog 226 (Value.agg #[Value.int IntKind.u8 0,Value.int IntKind.u8 0]) 2 2:=⟨by kernel_rfl⟩
instance ib226:BT Tryz.prog 226 [(0,1),(1,1)]:=⟨⟨_,Tryz.underlying226,by kernel_rfl⟩⟩
instance is226_0:SF Tryz.prog 226 0 0 5:=⟨⟨_,_,Tryz.underlying226,rfl,rfl,rfl⟩⟩
instance is226_1:SF Tryz.prog 226 1 1 5:=⟨⟨_,_,Tryz.underlying226,rfl,rfl,rfl⟩⟩
instance iu227:UT Tryz.prog 227 (TypeDesc.array 16 226):=⟨Tryz.underlying227⟩
instance ii227:TI Tryz.prog 227 (Value.agg #[Value.int IntKind.u8 0,Value.int IntKind.u8 0,Value.int IntKind.u8 0,Value.int IntKind.u8 0,Value.int IntKind.u8 0,Value.int IntKind.u8 0,Value.int IntKind.u8 0,Value.int IntKind.u8 0,Value.int IntKind.u8 0,Value.int IntKind.u8 0,Value.int IntKind.u8 0,Value.int IntKind.u8 0,Value.int IntKind.u8 0,Value.int IntKind.u8 0,Value.int IntKind.u8 0,Value.int IntKind.u8 0,Value.int IntKind.u8 0,Value.int IntKind.u8 0,Value.int IntKind.u8 0,Value.int IntKind.u8 0,Value.int IntKind.u8 0,Value.int IntKind.u8 0,Value.int IntKind.u8 0,Value.int IntKind.u8 0,Value.int IntKind.u8 0,Value.int IntKind.u8 0,Value.int IntKind.u8 0,Value.int IntKind.u8 0,Value.int IntKind.u8 0,Value.int IntKind.u8 0,Value.int IntKind.u8 0,Value.int IntKind.u8 0]) 32 32:=⟨by kernel_rfl⟩
instance iu228:UT Tryz.prog 228 (TypeDesc.int IntKind.u64):=⟨Tryz.underlying228⟩
instance ii228:TI Tryz.prog 228 (Value.int IntKind.u64 0) 1 8:=⟨by kernel_rfl⟩
instance iu229:UT Tryz.prog 229 Tryz.t229.desc:=⟨Tryz.underlying229⟩
instance ii229:TI Tryz.prog 229 Value.nilFunc 1 8:=⟨by kernel_rfl⟩
instance iu230:UT Tryz.prog 230 Tryz.t230.desc:=⟨Tryz.underlying230⟩
instance ii230:TI Tryz.prog 230 (Value.tuple #[Value.int IntKind.i64 0,Value.int IntKind.i64 0]) 1 0:=⟨by kernel_rfl⟩
instance iu231:UT Tryz.prog 231 Tryz.t231.desc:=⟨Tryz.underlying231⟩
instance ii231:TI Tryz.prog 231 Value.nilFunc 1 8:=⟨by kernel_rfl⟩
instance iu232:UT Tryz.prog 232 Tryz.t232.desc:=⟨Tryz.underlying232⟩
instance ii232:TI Tryz.prog 232 Value.nilFunc 1 8:=⟨by kernel_rfl⟩
instance iu233:UT Tryz.prog 233 Tryz.t233.desc:=⟨Tryz.underlying233⟩
instance ii233:TI Tryz.prog 233 Value.nilFunc 1 8:=⟨by kernel_rfl⟩
instance iu234:UT Tryz.prog 234 Tryz.t234.desc:=⟨Tryz.underlying234⟩
instance ii234:TI Tryz.prog 234 Value.nilFunc 1 8:=⟨by kernel_rfl⟩
instance iu235:UT Tryz.prog 235 Tryz.t235.desc:=⟨Tryz.underlying235⟩
instance ii235:TI Tryz.prog 235 Value.nilFunc 1 8:=⟨by kernel_rfl⟩
instance iu236:UT Tryz.prog 236 Tryz.t236.desc:=⟨Tryz.underlying236⟩
instance ii236:TI Tryz.prog 236 Value.nilFunc 1 8:=⟨by kernel_rfl⟩
instance iu237:UT Tryz.prog 237 (TypeDesc.slice 76):=⟨Tryz.underlying237⟩
instance ii237:TI Tryz.prog 237 (Value.slice none 0 0) 1 24:=⟨by kernel_rfl⟩
instance iu238:UT Tryz.prog 238 Tryz.t238.desc:=⟨Tryz.underlying238⟩
instance ii238:TI Tryz.prog 238 Value.nilFunc 1 8:=⟨by kernel_rfl⟩
instance iu239:UT Tryz.prog 239 Tryz.t239.desc:=⟨Tryz.underlying239⟩
instance ii239:TI Tryz.prog 239 Value.nilFunc 1 8:=⟨by kernel_rfl⟩
instance iu240:UT Tryz.prog 240 Tryz.t240.desc:=⟨Tryz.underlying240⟩
instance ii240:TI Tryz.prog 240 Value.nilFunc 1 8:=⟨by kernel_rfl⟩
instance iu241:UT Tryz.prog 241 Tryz.t241.desc:=⟨Tryz.underlying241⟩
instance ii241:TI Tryz.prog 241 Value.nilFunc 1 8:=⟨by kernel_rfl⟩
instance iu242:UT Tryz.prog 242 Tryz.t242.desc:=⟨Tryz.underlying242⟩
instance ii242:TI Tryz.prog 242 Value.nilFunc 1 8:=⟨by kernel_rfl⟩
instance iu243:UT Tryz.prog 243 Tryz.t243.desc:=⟨Tryz.underlying243⟩
instance ii243:TI Tryz.prog 243 (Value.tuple #[Value.bool false,Value.bool false]) 1 0:=⟨by kernel_rfl⟩
instance iu244:UT Tryz.prog 244 Tryz.t244.desc:=⟨Tryz.underlying244⟩
instance ii244:TI Tryz.prog 244 Value.nilFunc 1 8:=⟨by kernel_rfl⟩
instance iu245:UT Tryz.prog 245 Tryz.t245.desc:=⟨Tryz.underlying245⟩
instance ii245:TI Tryz.prog 245 Value.nilFunc 1 8:=⟨by kernel_rfl⟩
instance iu246:UT Tryz.prog 246 Tryz.t246.desc:=⟨Tryz.underlying246⟩
instance ii246:TI Tryz.prog 246 Value.nilFunc 1 8:=⟨by kernel_rfl⟩
instance iu247:UT Tryz.prog 247 Tryz.t247.desc:=⟨Tryz.underlying247⟩
instance ii247:TI Tryz.prog 247 Value.nilFunc 1 8:=⟨by kernel_rfl⟩
instance iu248:UT Tryz.prog 248 Tryz.t248.desc:=⟨Tryz.underlying248⟩
instance ii248:TI Tryz.prog 248 Value.nilFunc 1 8:=⟨by kernel_rfl⟩
instance iu249:UT Tryz.prog 249 Tryz.t249.desc:=⟨Tryz.underlying249⟩
instance ii249:TI Tryz.prog 249 Value.nilFunc 1 8:=⟨by kernel_rfl⟩
instance iu250:UT Tryz.prog 250 (TypeDesc.slice 4):=⟨Tryz.underlying250⟩
instance ii250:TI Tryz.prog 250 (Value.slice none 0 0) 1 24:=⟨by kernel_rfl⟩
instance iu251:UT Tryz.prog 251 Tryz.t251.desc:=⟨Tryz.underlying251⟩
instance ii251:TI Tryz.prog 251 Value.nilFunc 1 8:=⟨by kernel_rfl⟩
instance iu252:UT Tryz.prog 252 Tryz.t252.desc:=⟨Tryz.underlying252⟩
instance ii252:TI Tryz.prog 252 Value.nilFunc 1 8:=⟨by kernel_rfl⟩
instance iu253:UT Tryz.prog 253 Tryz.t253.desc:=⟨Tryz.underlying253⟩
instance ii253:TI Tryz.prog 253 Value.nilFunc 1 8:=⟨by kernel_rfl⟩
instance iu254:UT Tryz.prog 254 Tryz.t254.desc:=⟨Tryz.underlying254⟩
instance ii254:TI Tryz.prog 254 Value.nilFunc 1 8:=⟨by kernel_rfl⟩
instance iu255:UT Tryz.prog 255 Tryz.t255.desc:=⟨Tryz.underlying255⟩
instance ii255:TI Tryz.prog 255 Value.nilFunc 1 8:=⟨by kernel_rfl⟩
instance iu256:UT Tryz.prog 256 Tryz.t256.desc:=⟨Tryz.underlying256⟩
instance ii256:TI Tryz.prog 256 (Value.tuple #[Value.slice none 0 0,Value.int IntKind.i64 0]) 1 0:=⟨by kernel_rfl⟩
instance iu257:UT Tryz.prog 257 Tryz.t257.desc:=⟨Tryz.underlying257⟩
instance ii257:TI Tryz.prog 257 Value.nilFunc 1 8:=⟨by kernel_rfl⟩
instance iu258:UT Tryz.prog 258 (TypeDesc.int IntKind.u64):=⟨Tryz.underlying258⟩
instance ii258:TI Tryz.prog 258 (Value.int IntKind.u64 0) 1 8:=⟨by kernel_rfl⟩
instance iu259:UT Tryz.prog 259 Tryz.t259.desc:=⟨Tryz.underlying259⟩
instance ii259:TI Tryz.prog 259 Value.nilFunc 1 8:=⟨by kernel_rfl⟩
instance iu260:UT Tryz.prog 260 Tryz.t260.desc:=⟨Tryz.underlying260⟩
instance ii260:TI Tryz.prog 260 Value.nilFunc 1 8:=⟨by kernel_rfl⟩
instance iu261:UT Tryz.prog 261 Tryz.t261.desc:=⟨Tryz.underlying261⟩
instance ii261:TI Tryz.prog 261 Value.nilFunc 1 8:=⟨by kernel_rfl⟩
instance iu262:UT Tryz.prog 262 Tryz.t262.desc:=⟨Tryz.underlying262⟩
instance ii262:TI Tryz.prog 262 Value.nilFunc 1 8:=⟨by kernel_rfl⟩
instance iu263:UT Tryz.prog 263 (TypeDesc.int IntKind.i64):=⟨Tryz.underlying263⟩
instance ii263:TI Tryz.prog 263 (Value.int IntKind.i64 0) 1 8:=⟨by kernel_rfl⟩
instance iu264:UT Tryz.prog 264 Tryz.t264.desc:=⟨Tryz.underlying264⟩
instance ii264:TI Tryz.prog 264 (Value.tuple #[Value.int IntKind.i64 0,Value.int IntKind.i64 0]) 1 0:=⟨by kernel_rfl⟩
instance iu265:UT Tryz.prog 265 Tryz.t265.desc:=⟨Tryz.underlying265⟩
instance ii265:TI Tryz.prog 265 Value.nilFunc 1 8:=⟨by kernel_rfl⟩
instance iu266:UT Tryz.prog 266 Tryz.t266.desc:=⟨Tryz.underlying266⟩
instance ii266:TI Tryz.prog 266 Value.nilFunc 1 8:=⟨by kernel_rfl⟩
instance iu267:UT Tryz.prog 267 Tryz.t267.desc:=⟨Tryz.underlying267⟩
instance ii267:TI Tryz.prog 267 Value.nilFunc 1 8:=⟨by kernel_rfl⟩
instance iu268:UT Tryz.prog 268 Tryz.t268.desc:=⟨Tryz.underlying268⟩
instance ii268:TI Tryz.prog 268 (Value.tuple #[Value.int IntKind.i64 0,Value.bool false]) 1 0:=⟨by kernel_rfl⟩
instance iu269:UT Tryz.prog 269 Tryz.t269.desc:=⟨Tryz.underlying269⟩
instance ii269:TI Tryz.prog 269 Value.nilFunc 1 8:=⟨by kernel_rfl⟩
instance iu270:UT Tryz.prog 270 Tryz.t270.desc:=⟨Tryz.underlying270⟩
instance ii270:TI Tryz.prog 270 Value.nilFunc 1 8:=⟨by kernel_rfl⟩
instance iu271:UT Tryz.prog 271 Tryz.t271.desc:=⟨Tryz.underlying271⟩
instance ii271:TI Tryz.prog 271 Value.nilFunc 1 8:=⟨by kernel_rfl⟩
instance iu272:UT Tryz.prog 272 Tryz.t272.desc:=⟨Tryz.underlying272⟩
instance ii272:TI Tryz.prog 272 Value.nilFunc 1 8:=⟨by kernel_rfl⟩
instance iu273:UT Tryz.prog 273 Tryz.t273.desc:=⟨Tryz.underlying273⟩
instance ii273:TI Tryz.prog 273 Value.nilFunc 1 8:=⟨by kernel_rfl⟩
instance iu274:UT Tryz.prog 274 Tryz.t273.desc:=⟨Tryz.underlying274⟩
instance ii274:TI Tryz.prog 274 Value.nilFunc 1 8:=⟨by kernel_rfl⟩
instance iu275:UT Tryz.prog 275 Tryz.t275.desc:=⟨Tryz.underlying275⟩
instance ii275:TI Tryz.prog 275 Value.nilFunc 1 8:=⟨by kernel_rfl⟩
instance iu276:UT Tryz.prog 276 Tryz.t276.desc:=⟨Tryz.underlying276⟩
instance ii276:TI Tryz.prog 276 Value.nilFunc 1 8:=⟨by kernel_rfl⟩
instance iu277:UT Tryz.prog 277 Tryz.t277.desc:=⟨Tryz.underlying277⟩
instance ii277:TI Tryz.prog 277 Value.nilFunc 1 8:=⟨by kernel_rfl⟩
instance iu278:UT Tryz.prog 278 Tryz.t278.desc:=⟨Tryz.underlying278⟩
instance ii278:TI Tryz.prog 278 Value.nilFunc 1 8:=⟨by kernel_rfl⟩
instance iu279:UT Tryz.prog 279 Tryz.t279.desc:=⟨Tryz.underlying279⟩
instance ii279:TI Tryz.prog 279 Value.nilFunc 1 8:=⟨by kernel_rfl⟩
instance iu280:UT Tryz.prog 280 Tryz.t280.desc:=⟨Tryz.underlying280⟩
instance ii280:TI Tryz.prog 280 Value.nilFunc 1 8:=⟨by kernel_rfl⟩
instance iu281:UT Tryz.prog 281 Tryz.t281.desc:=⟨Tryz.underlying281⟩
instance ii281:TI Tryz.prog 281 Value.nilFunc 1 8:=⟨by kernel_rfl⟩
instance iu282:UT Tryz.prog 282 Tryz.t282.desc:=⟨Tryz.underlying282⟩
instance ii282:TI Tryz.prog 282 Value.nilFunc 1 8:=⟨by kernel_rfl⟩
instance iu283:UT Tryz.prog 283 (TypeDesc.int IntKind.u64):=⟨Tryz.underlying283⟩
instance ii283:TI Tryz.prog 283 (Value.int IntKind.u64 0) 1 8:=⟨by kernel_rfl⟩
instance iu284:UT Tryz.prog 284 Tryz.t284.desc:=⟨Tryz.underlying284⟩
instance ii284:TI Tryz.prog 284 Value.nilFunc 1 8:=⟨by kernel_rfl⟩
instance iu285:UT Tryz.prog 285 Tryz.t285.desc:=⟨Tryz.underlying285⟩
instance ii285:TI Tryz.prog 285 Value.nilFunc 1 8:=⟨by kernel_rfl⟩
instance iu286:UT Tryz.prog 286 Tryz.t286.desc:=⟨Tryz.underlying286⟩
instance ii286:TI Tryz.prog 286 Value.nilFunc 1 8:=⟨by kernel_rfl⟩
instance iu287:UT Tryz.prog 287 (TypeDesc.pointer 3):=⟨Tryz.underlying287⟩
instance ii287:TI Tryz.prog 287 (Value.pointer none) 1 8:=⟨by kernel_rfl⟩
instance iu288:UT Tryz.prog 288 Tryz.t288.desc:=⟨Tryz.underlying288⟩
instance ii288:TI Tryz.prog 288 Value.nilFunc 1 8:=⟨by kernel_rfl⟩
instance iu289:UT Tryz.prog 289 Tryz.t289.desc:=⟨Tryz.underlying289⟩
instance ii289:TI Tryz.prog 289 Value.nilFunc 1 8:=⟨by kernel_rfl⟩
instance iu290:UT Tryz.prog 290 Tryz.t290.desc:=⟨Tryz.underlying290⟩
instance ii290:TI Tryz.prog 290 Value.nilFunc 1 8:=⟨by kernel_rfl⟩
instance iu291:UT Tryz.prog 291 Tryz.t291.desc:=⟨Tryz.underlying291⟩
instance ii291:TI Tryz.prog 291 Value.nilFunc 1 8:=⟨by kernel_rfl⟩
instance iu292:UT Tryz.prog 292 Tryz.t292.desc:=⟨Tryz.underlying292⟩
instance ii292:TI Tryz.prog 292 Value.nilFunc 1 8:=⟨by kernel_rfl⟩
instance iu293:UT Tryz.prog 293 (TypeDesc.pointer 283):=⟨Tryz.underlying293⟩
instance ii293:TI Tryz.prog 293 (Value.pointer none) 1 8:=⟨by kernel_rfl⟩
instance iu294:UT Tryz.prog 294 Tryz.t294.desc:=⟨Tryz.underlying294⟩
instance ii294:TI Tryz.prog 294 Value.nilFunc 1 8:=⟨by kernel_rfl⟩
instance iu295:UT Tryz.prog 295 Tryz.t295.desc:=⟨Tryz.underlying295⟩
instance ii295:TI Tryz.prog 295 Value.nilFunc 1 8:=⟨by kernel_rfl⟩
instance iu296:UT Tryz.prog 296 Tryz.t296.desc:=⟨Tryz.underlying296⟩
instance ii296:TI Tryz.prog 296 Value.nilFunc 1 8:=⟨by kernel_rfl⟩
instance iu297:UT Tryz.prog 297 Tryz.t297.desc:=⟨Tryz.underlying297⟩
instance ii297:TI Tryz.prog 297 (Value.agg #[Value.slice none 0 0,Value.slice none 0 0]) 2 48:=⟨by kernel_rfl⟩
instance ib297:BT Tryz.prog 297 [(0,1),(1,1)]:=⟨⟨_,Tryz.underlying297,by kernel_rfl⟩⟩
instance is297_0:SF Tryz.prog 297 0 0 25:=⟨⟨_,_,Tryz.underlying297,rfl,rfl,rfl⟩⟩
instance is297_1:SF Tryz.prog 297 1 1 110:=⟨⟨_,_,Tryz.underlying297,rfl,rfl,rfl⟩⟩
instance iu298:UT Tryz.prog 298 Tryz.t297.desc:=⟨Tryz.underlying298⟩
instance ii298:TI Tryz.prog 298 (Value.agg #[Value.slice none 0 0,Value.slice none 0 0]) 2 48:=⟨by kernel_rfl⟩
instance ib298:BT Tryz.prog 298 [(0,1),(1,1)]:=⟨⟨_,Tryz.underlying298,by kernel_rfl⟩⟩
instance is298_0:SF Tryz.prog 298 0 0 25:=⟨⟨_,_,Tryz.underlying298,rfl,rfl,rfl⟩⟩
instance is298_1:SF Tryz.prog 298 1 1 110:=⟨⟨_,_,Tryz.underlying298,rfl,rfl,rfl⟩⟩
instance iu299:UT Tryz.prog 299 Tryz.t299.desc:=⟨Tryz.underlying299⟩
instance ii299:TI Tryz.prog 299 Value.nilFunc 1 8:=⟨by kernel_rfl⟩
instance iu300:UT Tryz.prog 300 Tryz.t300.desc:=⟨Tryz.underlying300⟩
instance ii300:TI Tryz.prog 300 (Value.agg #[Value.int IntKind.i64 0,Value.int IntKind.i64 0]) 2 16:=⟨by kernel_rfl⟩
instance ib300:BT Tryz.prog 300 [(0,1),(1,1)]:=⟨⟨_,Tryz.underlying300,by kernel_rfl⟩⟩
instance is300_0:SF Tryz.prog 300 0 0 3:=⟨⟨_,_,Tryz.underlying300,rfl,rfl,rfl⟩⟩
instance is300_1:SF Tryz.prog 300 1 1 3:=⟨⟨_,_,Tryz.underlying300,rfl,rfl,rfl⟩⟩
instance iu301:UT Tryz.prog 301 Tryz.t300.desc:=⟨Tryz.underlying301⟩
instance ii301:TI Tryz.prog 301 (Value.agg #[Value.int IntKind.i64 0,Value.int IntKind.i64 0]) 2 16:=⟨by kernel_rfl⟩
instance ib301:BT Tryz.prog 301 [(0,1),(1,1)]:=⟨⟨_,Tryz.underlying301,by kernel_rfl⟩⟩
instance is301_0:SF Tryz.prog 301 0 0 3:=⟨⟨_,_,Tryz.underlying301,rfl,rfl,rfl⟩⟩
instance is301_1:SF Tryz.prog 301 1 1 3:=⟨⟨_,_,Tryz.underlying301,rfl,rfl,rfl⟩⟩
instance iu302:UT Tryz.prog 302 Tryz.t302.desc:=⟨Tryz.underlying302⟩
instance ii302:TI Tryz.prog 302 Value.nilFunc 1 8:=⟨by kernel_rfl⟩
instance iu303:UT Tryz.prog 303 Tryz.t303.desc:=⟨Tryz.underlying303⟩
instance ii303:TI Tryz.prog 303 (Value.agg #[Value.pointer none,Value.pointer none,Value.pointer none,Value.string { data:=#[] }]) 4 40:=⟨by kernel_rfl⟩
instance ib303:BT Tryz.prog 303 [(0,1),(1,1),(2,1),(3,1)]:=⟨⟨_,Tryz.underlying303,by kernel_rfl⟩⟩
instance is303_0:SF Tryz.prog 303 0 0 17:=⟨⟨_,_,Tryz.underlying303,rfl,rfl,rfl⟩⟩
instance is303_1:SF Tryz.prog 303 1 1 17:=⟨⟨_,_,Tryz.underlying303,rfl,rfl,rfl⟩⟩
instance is303_2:SF Tryz.prog 303 2 2 17:=⟨⟨_,_,Tryz.underlying303,rfl,rfl,rfl⟩⟩
instance is303_3:SF Tryz.prog 303 3 3 9:=⟨⟨_,_,Tryz.underlying303,rfl,rfl,rfl⟩⟩
instance iu304:UT Tryz.prog 304 Tryz.t303.desc:=⟨Tryz.underlying304⟩
instance ii304:TI Tryz.prog 304 (Value.agg #[Value.pointer none,Value.pointer none,Value.pointer none,Value.string { data:=#[] }]) 4 40:=⟨by kernel_rfl⟩
instance ib304:BT Tryz.prog 304 [(0,1),(1,1),(2,1),(3,1)]:=⟨⟨_,Tryz.underlying304,by kernel_rfl⟩⟩
instance is304_0:SF Tryz.prog 304 0 0 17:=⟨⟨_,_,Tryz.underlying304,rfl,rfl,rfl⟩⟩
instance is304_1:SF Tryz.prog 304 1 1 17:=⟨⟨_,_,Tryz.underlying304,rfl,rfl,rfl⟩⟩
instance is304_2:SF Tryz.prog 304 2 2 17:=⟨⟨_,_,Tryz.underlying304,rfl,rfl,rfl⟩⟩
instance is304_3:SF Tryz.prog 304 3 3 9:=⟨⟨_,_,Tryz.underlying304,rfl,rfl,rfl⟩⟩
instance iu305:UT Tryz.prog 305 (TypeDesc.array 0 16):=⟨Tryz.underlying305⟩
instance ii305:TI Tryz.prog 305 (Value.agg #[]) 0 0:=⟨by kernel_rfl⟩
instance iu306:UT Tryz.prog 306 Tryz.t306.desc:=⟨Tryz.underlying306⟩
instance ii306:TI Tryz.prog 306 (Value.agg #[]) 0 0:=⟨by kernel_rfl⟩
instance ib306:BT Tryz.prog 306 [(0,0)]:=⟨⟨_,Tryz.underlying306,by kernel_rfl⟩⟩
instance is306_0:SF Tryz.prog 306 0 0 305:=⟨⟨_,_,Tryz.underlying306,rfl,rfl,rfl⟩⟩
instance iu307:UT Tryz.prog 307 Tryz.t306.desc:=⟨Tryz.underlying307⟩
instance ii307:TI Tryz.prog 307 (Value.agg #[]) 0 0:=⟨by kernel_rfl⟩
instance ib307:BT Tryz.prog 307 [(0,0)]:=⟨⟨_,Tryz.underlying307,by kernel_rfl⟩⟩
instance is307_0:SF Tryz.prog 307 0 0 305:=⟨⟨_,_,Tryz.underlying307,rfl,rfl,rfl⟩⟩
instance iu308:UT Tryz.prog 308 Tryz.t308.desc:=⟨Tryz.underlying308⟩
instance ii308:TI Tryz.prog 308 Value.nilFunc 1 8:=⟨by kernel_rfl⟩
instance iu309:UT Tryz.prog 309 (TypeDesc.int IntKind.u8):=⟨Tryz.underlying309⟩
instance ii309:TI Tryz.prog 309 (Value.int IntKind.u8 0) 1 1:=⟨by kernel_rfl⟩
instance iu310:UT Tryz.prog 310 (TypeDesc.int IntKind.u8):=⟨Tryz.underlying310⟩
instance ii310:TI Tryz.prog 310 (Value.int IntKind.u8 0) 1 1:=⟨by kernel_rfl⟩
instance iu311:UT Tryz.prog 311 Tryz.t311.desc:=⟨Tryz.underlying311⟩
instance ii311:TI Tryz.prog 311 Value.nilFunc 1 8:=⟨by kernel_rfl⟩
instance iu312:UT Tryz.prog 312 (TypeDesc.pointer 5):=⟨Tryz.underlying312⟩
instance ii312:TI Tryz.prog 312 (Value.pointer none) 1 8:=⟨by kernel_rfl⟩
instance iu313:UT Tryz.prog 313 (TypeDesc.int IntKind.i32):=⟨Tryz.underlying313⟩
instance ii313:TI Tryz.prog 313 (Value.int IntKind.i32 0) 1 4:=⟨by kernel_rfl⟩
instance iu314:UT Tryz.prog 314 (TypeDesc.int IntKind.i32):=⟨Tryz.underlying314⟩
instance ii314:TI Tryz.prog 314 (Value.int IntKind.i32 0) 1 4:=⟨by kernel_rfl⟩
instance iu315:UT Tryz.prog 315 Tryz.t315.desc:=⟨Tryz.underlying315⟩
instance ii315:TI Tryz.prog 315 (Value.agg #[Value.int IntKind.u64 0,Value.int IntKind.u64 0,Value.int IntKind.u32 0,Value.int IntKind.u8 0,Value.int IntKind.u8 0,Value.int IntKind.u8 0,Value.int IntKind.u8 0,Value.nilFunc,Value.pointer none,Value.int IntKind.i32 0,Value.int IntKind.i32 0]) 11 48:=⟨by kernel_rfl⟩
instance ib315:BT Tryz.prog 315 [(0,1),(1,1),(2,1),(3,1),(4,1),(5,1),(6,1),(7,1),(8,1),(9,1),(10,1)]:=⟨⟨_,Tryz.underlying315,by kernel_rfl⟩⟩
instance is315_0:SF Tryz.prog 315 0 0 12:=⟨⟨_,_,Tryz.underlying315,rfl,rfl,rfl⟩⟩
instance is315_1:SF Tryz.prog 315 1 1 12:=⟨⟨_,_,Tryz.underlying315,rfl,rfl,rfl⟩⟩
instance is315_2:SF Tryz.prog 315 2 2 176:=⟨⟨_,_,Tryz.underlying315,rfl,rfl,rfl⟩⟩
instance is315_3:SF Tryz.prog 315 3 3 309:=⟨⟨_,_,Tryz.underlying315,rfl,rfl,rfl⟩⟩
instance is315_4:SF Tryz.prog 315 4 4 5:=⟨⟨_,_,Tryz.underlying315,rfl,rfl,rfl⟩⟩
instance is315_5:SF Tryz.prog 315 5 5 5:=⟨⟨_,_,Tryz.underlying315,rfl,rfl,rfl⟩⟩
instance is315_6:SF Tryz.prog 315 6 6 310:=⟨⟨_,_,Tryz.underlying315,rfl,rfl,rfl⟩⟩
instance is315_7:SF Tryz.prog 315 7 7 311:=⟨⟨_,_,Tryz.underlying315,rfl,rfl,rfl⟩⟩
instance is315_8:SF Tryz.prog 315 8 8 312:=⟨⟨_,_,Tryz.underlying315,rfl,rfl,rfl⟩⟩
instance is315_9:SF Tryz.prog 315 9 9 313:=⟨⟨_,_,Tryz.underlying315,rfl,rfl,rfl⟩⟩
instance is315_10:SF Tryz.prog 315 10 10 314:=⟨⟨_,_,Tryz.underlying315,rfl,rfl,rfl⟩⟩
instance iu316:UT Tryz.prog 316 Tryz.t315.desc:=⟨Tryz.underlying316⟩
instance ii316:TI Tryz.prog 316 (Value.agg #[Value.int IntKind.u64 0,Value.int IntKind.u64 0,Value.int IntKind.u32 0,Value.int IntKind.u8 0,Value.int IntKind.u8 0,Value.int IntKind.u8 0,Value.int IntKind.u8 0,Value.nilFunc,Value.pointer none,Value.int IntKind.i32 0,Value.int IntKind.i32 0]) 11 48:=⟨by kernel_rfl⟩
instance ib316:BT Tryz.prog 316 [(0,1),(1,1),(2,1),(3,1),(4,1),(5,1),(6,1),(7,1),(8,1),(9,1),(10,1)]:=⟨⟨_,Tryz.underlying316,by kernel_rfl⟩⟩
instance is316_0:SF Tryz.prog 316 0 0 12:=⟨⟨_,_,Tryz.underlying316,rfl,rfl,rfl⟩⟩
instance is316_1:SF Tryz.prog 316 1 1 12:=⟨⟨_,_,Tryz.underlying316,rfl,rfl,rfl⟩⟩
instance is316_2:SF Tryz.prog 316 2 2 176:=⟨⟨_,_,Tryz.underlying316,rfl,rfl,rfl⟩⟩
instance is316_3:SF Tryz.prog 316 3 3 309:=⟨⟨_,_,Tryz.underlying316,rfl,rfl,rfl⟩⟩
instance is316_4:SF Tryz.prog 316 4 4 5:=⟨⟨_,_,Tryz.underlying316,rfl,rfl,rfl⟩⟩
instance is316_5:SF Tryz.prog 316 5 5 5:=⟨⟨_,_,Tryz.underlying316,rfl,rfl,rfl⟩⟩
instance is316_6:SF Tryz.prog 316 6 6 310:=⟨⟨_,_,Tryz.underlying316,rfl,rfl,rfl⟩⟩
instance is316_7:SF Tryz.prog 316 7 7 311:=⟨⟨_,_,Tryz.underlying316,rfl,rfl,rfl⟩⟩
instance is316_8:SF Tryz.prog 316 8 8 312:=⟨⟨_,_,Tryz.underlying316,rfl,rfl,rfl⟩⟩
instance is316_9:SF Tryz.prog 316 9 9 313:=⟨⟨_,_,Tryz.underlying316,rfl,rfl,rfl⟩⟩
instance is316_10:SF Tryz.prog 316 10 10 314:=⟨⟨_,_,Tryz.underlying316,rfl,rfl,rfl⟩⟩
instance iu317:UT Tryz.prog 317 (TypeDesc.unsafePointer):=⟨Tryz.underlying317⟩
instance ii317:TI Tryz.prog 317 (Value.pointer none) 1 8:=⟨by kernel_rfl⟩
theorem en13:∀ args w,(Go.callFunc 13 args).run Tryz.prog w=.ok (.enter 13 args) w:=enters_fn Tryz.func13 (by kernel_rfl) rfl
theorem en14:∀ args w,(Go.callFunc 14 args).run Tryz.prog w=.ok (.enter 14 args) w:=enters_fn Tryz.func14 (by kernel_rfl) rfl
theorem en15:∀ args w,(Go.callFunc 15 args).run Tryz.prog w=.ok (.enter 15 args) w:=enters_fn Tryz.func15 (by kernel_rfl) rfl
theorem en18:∀ args w,(Go.callFunc 18 args).run Tryz.prog w=.ok (.enter 18 args) w:=enters_fn Tryz.func18 (by kernel_rfl) rfl
theorem en19:∀ args w,(Go.callFunc 19 args).run Tryz.prog w=.ok (.enter 19 args) w:=enters_fn Tryz.func19 (by kernel_rfl) rfl
theorem en21:∀ args w,(Go.callFunc 21 args).run Tryz.prog w=.ok (.enter 21 args) w:=enters_fn Tryz.func21 (by kernel_rfl) rfl
theorem en22:∀ args w,(Go.callFunc 22 args).run Tryz.prog w=.ok (.enter 22 args) w:=enters_fn Tryz.func22 (by kernel_rfl) rfl
theorem en24:∀ args w,(Go.callFunc 24 args).run Tryz.prog w=.ok (.enter 24 args) w:=enters_fn Tryz.func24 (by kernel_rfl) rfl
theorem en25:∀ args w,(Go.callFunc 25 args).run Tryz.prog w=.ok (.enter 25 args) w:=enters_fn Tryz.func25 (by kernel_rfl) rfl
theorem en26:∀ args w,(Go.callFunc 26 args).run Tryz.prog w=.ok (.enter 26 args) w:=enters_fn Tryz.func26 (by kernel_rfl) rfl
theorem en28:∀ args w,(Go.callFunc 28 args).run Tryz.prog w=.ok (.enter 28 args) w:=enters_fn Tryz.func28 (by kernel_rfl) rfl
theorem en29:∀ args w,(Go.callFunc 29 args).run Tryz.prog w=.ok (.enter 29 args) w:=enters_fn Tryz.func29 (by kernel_rfl) rfl
theorem en30:∀ args w,(Go.callFunc 30 args).run Tryz.prog w=.ok (.enter 30 args) w:=enters_fn Tryz.func30 (by kernel_rfl) rfl
theorem en31:∀ args w,(Go.callFunc 31 args).run Tryz.prog w=.ok (.enter 31 args) w:=enters_fn Tryz.func31 (by kernel_rfl) rfl
theorem en32:∀ args w,(Go.callFunc 32 args).run Tryz.prog w=.ok (.enter 32 args) w:=enters_fn Tryz.func32 (by kernel_rfl) rfl
theorem en33:∀ args w,(Go.callFunc 33 args).run Tryz.prog w=.ok (.enter 33 args) w:=enters_fn Tryz.func33 (by kernel_rfl) rfl
theorem en34:∀ args w,(Go.callFunc 34 args).run Tryz.prog w=.ok (.enter 34 args) w:=enters_fn Tryz.func34 (by kernel_rfl) rfl
theorem en35:∀ args w,(Go.callFunc 35 args).run Tryz.prog w=.ok (.enter 35 args) w:=enters_fn Tryz.func35 (by kernel_rfl) rfl
theorem en36:∀ args w,(Go.callFunc 36 args).run Tryz.prog w=.ok (.enter 36 args) w:=enters_fn Tryz.func36 (by kernel_rfl) rfl
theorem en37:∀ args w,(Go.callFunc 37 args).run Tryz.prog w=.ok (.enter 37 args) w:=enters_fn Tryz.func37 (by kernel_rfl) rfl
theorem en38:∀ args w,(Go.callFunc 38 args).run Tryz.prog w=.ok (.enter 38 args) w:=enters_fn Tryz.func38 (by kernel_rfl) rfl
theorem en39:∀ args w,(Go.callFunc 39 args).run Tryz.prog w=.ok (.enter 39 args) w:=enters_fn Tryz.func39 (by kernel_rfl) rfl
theorem en40:∀ args w,(Go.callFunc 40 args).run Tryz.prog w=.ok (.enter 40 args) w:=enters_fn Tryz.func40 (by kernel_rfl) rfl
theorem en41:∀ args w,(Go.callFunc 41 args).run Tryz.prog w=.ok (.enter 41 args) w:=enters_fn Tryz.func41 (by kernel_rfl) rfl
theorem en42:∀ args w,(Go.callFunc 42 args).run Tryz.prog w=.ok (.enter 42 args) w:=enters_fn Tryz.func42 (by kernel_rfl) rfl
theorem en46:∀ args w,(Go.callFunc 46 args).run Tryz.prog w=.ok (.enter 46 args) w:=enters_fn Tryz.func46 (by kernel_rfl) rfl
theorem en47:∀ args w,(Go.callFunc 47 args).run Tryz.prog w=.ok (.enter 47 args) w:=enters_fn Tryz.func47 (by kernel_rfl) rfl
theorem en48:∀ args w,(Go.callFunc 48 args).run Tryz.prog w=.ok (.enter 48 args) w:=enters_fn Tryz.func48 (by kernel_rfl) rfl
theorem en49:∀ args w,(Go.callFunc 49 args).run Tryz.prog w=.ok (.enter 49 args) w:=enters_fn Tryz.func49 (by kernel_rfl) rfl
theorem en50:∀ args w,(Go.callFunc 50 args).run Tryz.prog w=.ok (.enter 50 args) w:=enters_fn Tryz.func50 (by kernel_rfl) rfl
theorem en52:∀ args w,(Go.callFunc 52 args).run Tryz.prog w=.ok (.enter 52 args) w:=enters_fn Tryz.func52 (by kernel_rfl) rfl
theorem en56:∀ args w,(Go.callFunc 56 args).run Tryz.prog w=.ok (.enter 56 args) w:=enters_fn Tryz.func56 (by kernel_rfl) rfl
theorem en57:∀ args w,(Go.callFunc 57 args).run Tryz.prog w=.ok (.enter 57 args) w:=enters_fn Tryz.func57 (by kernel_rfl) rfl
theorem en58:∀ args w,(Go.callFunc 58 args).run Tryz.prog w=.ok (.enter 58 args) w:=enters_fn Tryz.func58 (by kernel_rfl) rfl
theorem en59:∀ args w,(Go.callFunc 59 args).run Tryz.prog w=.ok (.enter 59 args) w:=enters_fn Tryz.func59 (by kernel_rfl) rfl
theorem en60:∀ args w,(Go.callFunc 60 args).run Tryz.prog w=.ok (.enter 60 args) w:=enters_fn Tryz.func60 (by kernel_rfl) rfl
theorem en63:∀ args w,(Go.callFunc 63 args).run Tryz.prog w=.ok (.enter 63 args) w:=enters_fn Tryz.func63 (by kernel_rfl) rfl
theorem en64:∀ args w,(Go.callFunc 64 args).run Tryz.prog w=.ok (.enter 64 args) w:=enters_fn Tryz.func64 (by kernel_rfl) rfl
theorem en65:∀ args w,(Go.callFunc 65 args).run Tryz.prog w=.ok (.enter 65 args) w:=enters_fn Tryz.func65 (by kernel_rfl) rfl
theorem en66:∀ args w,(Go.callFunc 66 args).run Tryz.prog w=.ok (.enter 66 args) w:=enters_fn Tryz.func66 (by kernel_rfl) rfl
theorem en67:∀ args w,(Go.callFunc 67 args).run Tryz.prog w=.ok (.enter 67 args) w:=enters_fn Tryz.func67 (by kernel_rfl) rfl
theorem en68:∀ args w,(Go.callFunc 68 args).run Tryz.prog w=.ok (.enter 68 args) w:=enters_fn Tryz.func68 (by kernel_rfl) rfl
theorem en69:∀ args w,(Go.callFunc 69 args).run Tryz.prog w=.ok (.enter 69 args) w:=enters_fn Tryz.func69 (by kernel_rfl) rfl
theorem en70:∀ args w,(Go.callFunc 70 args).run Tryz.prog w=.ok (.enter 70 args) w:=enters_fn Tryz.func70 (by kernel_rfl) rfl
theorem en71:∀ args w,(Go.callFunc 71 args).run Tryz.prog w=.ok (.enter 71 args) w:=enters_fn Tryz.func71 (by kernel_rfl) rfl
theorem en72:∀ args w,(Go.callFunc 72 args).run Tryz.prog w=.ok (.enter 72 args) w:=enters_fn Tryz.func72 (by kernel_rfl) rfl
theorem en73:∀ args w,(Go.callFunc 73 args).run Tryz.prog w=.ok (.enter 73 args) w:=enters_fn Tryz.func73 (by kernel_rfl) rfl
theorem en74:∀ args w,(Go.callFunc 74 args).run Tryz.prog w=.ok (.enter 74 args) w:=enters_fn Tryz.func74 (by kernel_rfl) rfl
theorem en75:∀ args w,(Go.callFunc 75 args).run Tryz.prog w=.ok (.enter 75 args) w:=enters_fn Tryz.func75 (by kernel_rfl) rfl
theorem en81:∀ args w,(Go.callFunc 81 args).run Tryz.prog w=.ok (.enter 81 args) w:=enters_fn Tryz.func81 (by kernel_rfl) rfl
theorem en85:∀ args w,(Go.callFunc 85 args).run Tryz.prog w=.ok (.enter 85 args) w:=enters_fn Tryz.func85 (by kernel_rfl) rfl
theorem en88:∀ args w,(Go.callFunc 88 args).run Tryz.prog w=.ok (.enter 88 args) w:=enters_fn Tryz.func88 (by kernel_rfl) rfl
theorem en89:∀ args w,(Go.callFunc 89 args).run Tryz.prog w=.ok (.enter 89 args) w:=enters_fn Tryz.func89 (by kernel_rfl) rfl
theorem en90:∀ args w,(Go.callFunc 90 args).run Tryz.prog w=.ok (.enter 90 args) w:=enters_fn Tryz.func90 (by kernel_rfl) rfl
theorem en93:∀ args w,(Go.callFunc 93 args).run Tryz.prog w=.ok (.enter 93 args) w:=enters_fn Tryz.func93 (by kernel_rfl) rfl
theorem en94:∀ args w,(Go.callFunc 94 args).run Tryz.prog w=.ok (.enter 94 args) w:=enters_fn Tryz.func94 (by kernel_rfl) rfl
theorem en95:∀ args w,(Go.callFunc 95 args).run Tryz.prog w=.ok (.enter 95 args) w:=enters_fn Tryz.func95 (by kernel_rfl) rfl
theorem en97:∀ args w,(Go.callFunc 97 args).run Tryz.prog w=.ok (.enter 97 args) w:=enters_fn Tryz.func97 (by kernel_rfl) rfl
theorem en100:∀ args w,(Go.callFunc 100 args).run Tryz.prog w=.ok (.enter 100 args) w:=enters_fn Tryz.func100 (by kernel_rfl) rfl
theorem en101:∀ args w,(Go.callFunc 101 args).run Tryz.prog w=.ok (.enter 101 args) w:=enters_fn Tryz.func101 (by kernel_rfl) rfl
theorem en102:∀ args w,(Go.callFunc 102 args).run Tryz.prog w=.ok (.enter 102 args) w:=enters_fn Tryz.func102 (by kernel_rfl) rfl
theorem en103:∀ args w,(Go.callFunc 103 args).run Tryz.prog w=.ok (.enter 103 args) w:=enters_fn Tryz.func103 (by kernel_rfl) rfl
theorem en104:∀ args w,(Go.callFunc 104 args).run Tryz.prog w=.ok (.enter 104 args) w:=enters_fn Tryz.func104 (by kernel_rfl) rfl
theorem en105:∀ args w,(Go.callFunc 105 args).run Tryz.prog w=.ok (.enter 105 args) w:=enters_fn Tryz.func105 (by kernel_rfl) rfl
theorem en106:∀ args w,(Go.callFunc 106 args).run Tryz.prog w=.ok (.enter 106 args) w:=enters_fn Tryz.func106 (by kernel_rfl) rfl
theorem en107:∀ args w,(Go.callFunc 107 args).run Tryz.prog w=.ok (.enter 107 args) w:=enters_fn Tryz.func107 (by kernel_rfl) rfl
theorem en108:∀ args w,(Go.callFunc 108 args).run Tryz.prog w=.ok (.enter 108 args) w:=enters_fn Tryz.func108 (by kernel_rfl) rfl
theorem en109:∀ args w,(Go.callFunc 109 args).run Tryz.prog w=.ok (.enter 109 args) w:=enters_fn Tryz.func109 (by kernel_rfl) rfl
theorem en110:∀ args w,(Go.callFunc 110 args).run Tryz.prog w=.ok (.enter 110 args) w:=enters_fn Tryz.func110 (by kernel_rfl) rfl
theorem en116:∀ args w,(Go.callFunc 116 args).run Tryz.prog w=.ok (.enter 116 args) w:=enters_fn Tryz.func116 (by kernel_rfl) rfl
theorem en127:∀ args w,(Go.callFunc 127 args).run Tryz.prog w=.ok (.enter 127 args) w:=enters_fn Tryz.func127 (by kernel_rfl) rfl
theorem en130:∀ args w,(Go.callFunc 130 args).run Tryz.prog w=.ok (.enter 130 args) w:=enters_fn Tryz.func130 (by kernel_rfl) rfl
theorem en132:∀ args w,(Go.callFunc 132 args).run Tryz.prog w=.ok (.enter 132 args) w:=enters_fn Tryz.func132 (by kernel_rfl) rfl
theorem en133:∀ args w,(Go.callFunc 133 args).run Tryz.prog w=.ok (.enter 133 args) w:=enters_fn Tryz.func133 (by kernel_rfl) rfl
theorem en134:∀ args w,(Go.callFunc 134 args).run Tryz.prog w=.ok (.enter 134 args) w:=enters_fn Tryz.func134 (by kernel_rfl) rfl
theorem en135:∀ args w,(Go.callFunc 135 args).run Tryz.prog w=.ok (.enter 135 args) w:=enters_fn Tryz.func135 (by kernel_rfl) rfl
theorem en136:∀ args w,(Go.callFunc 136 args).run Tryz.prog w=.ok (.enter 136 args) w:=enters_fn Tryz.func136 (by kernel_rfl) rfl
theorem en138:∀ args w,(Go.callFunc 138 args).run Tryz.prog w=.ok (.enter 138 args) w:=enters_fn Tryz.func138 (by kernel_rfl) rfl
theorem en139:∀ args w,(Go.callFunc 139 args).run Tryz.prog w=.ok (.enter 139 args) w:=enters_fn Tryz.func139 (by kernel_rfl) rfl
theorem en140:∀ args w,(Go.callFunc 140 args).run Tryz.prog w=.ok (.enter 140 args) w:=enters_fn Tryz.func140 (by kernel_rfl) rfl
theorem en141:∀ args w,(Go.callFunc 141 args).run Tryz.prog w=.ok (.enter 141 args) w:=enters_fn Tryz.func141 (by kernel_rfl) rfl
theorem en142:∀ args w,(Go.callFunc 142 args).run Tryz.prog w=.ok (.enter 142 args) w:=enters_fn Tryz.func142 (by kernel_rfl) rfl
theorem en147:∀ args w,(Go.callFunc 147 args).run Tryz.prog w=.ok (.enter 147 args) w:=enters_fn Tryz.func147 (by kernel_rfl) rfl
theorem en170:∀ args w,(Go.callFunc 170 args).run Tryz.prog w=.ok (.enter 170 args) w:=enters_fn Tryz.func170 (by kernel_rfl) rfl
theorem en171:∀ args w,(Go.callFunc 171 args).run Tryz.prog w=.ok (.enter 171 args) w:=enters_fn Tryz.func171 (by kernel_rfl) rfl
theorem en172:∀ args w,(Go.callFunc 172 args).run Tryz.prog w=.ok (.enter 172 args) w:=enters_fn Tryz.func172 (by kernel_rfl) rfl
theorem en173:∀ args w,(Go.callFunc 173 args).run Tryz.prog w=.ok (.enter 173 args) w:=enters_fn Tryz.func173 (by kernel_rfl) rfl
theorem en174:∀ args w,(Go.callFunc 174 args).run Tryz.prog w=.ok (.enter 174 args) w:=enters_fn Tryz.func174 (by kernel_rfl) rfl
theorem en175:∀ args w,(Go.callFunc 175 args).run Tryz.prog w=.ok (.enter 175 args) w:=enters_fn Tryz.func175 (by kernel_rfl) rfl
theorem en176:∀ args w,(Go.callFunc 176 args).run Tryz.prog w=.ok (.enter 176 args) w:=enters_fn Tryz.func176 (by kernel_rfl) rfl
theorem en177:∀ args w,(Go.callFunc 177 args).run Tryz.prog w=.ok (.enter 177 args) w:=enters_fn Tryz.func177 (by kernel_rfl) rfl
theorem en178:∀ args w,(Go.callFunc 178 args).run Tryz.prog w=.ok (.enter 178 args) w:=enters_fn Tryz.func178 (by kernel_rfl) rfl
theorem en179:∀ args w,(Go.callFunc 179 args).run Tryz.prog w=.ok (.enter 179 args) w:=enters_fn Tryz.func179 (by kernel_rfl) rfl
theorem en182:∀ args w,(Go.callFunc 182 args).run Tryz.prog w=.ok (.enter 182 args) w:=enters_fn Tryz.func182 (by kernel_rfl) rfl
theorem en183:∀ args w,(Go.callFunc 183 args).run Tryz.prog w=.ok (.enter 183 args) w:=enters_fn Tryz.func183 (by kernel_rfl) rfl
theorem en184:∀ args w,(Go.callFunc 184 args).run Tryz.prog w=.ok (.enter 184 args) w:=enters_fn Tryz.func184 (by kernel_rfl) rfl
theorem en185:∀ args w,(Go.callFunc 185 args).run Tryz.prog w=.ok (.enter 185 args) w:=enters_fn Tryz.func185 (by kernel_rfl) rfl
theorem en186:∀ args w,(Go.callFunc 186 args).run Tryz.prog w=.ok (.enter 186 args) w:=enters_fn Tryz.func186 (by kernel_rfl) rfl
theorem en200:∀ args w,(Go.callFunc 200 args).run Tryz.prog w=.ok (.enter 200 args) w:=enters_fn Tryz.func200 (by kernel_rfl) rfl
theorem en201:∀ args w,(Go.callFunc 201 args).run Tryz.prog w=.ok (.enter 201 args) w:=enters_fn Tryz.func201 (by kernel_rfl) rfl
theorem en202:∀ args w,(Go.callFunc 202 args).run Tryz.prog w=.ok (.enter 202 args) w:=enters_fn Tryz.func202 (by kernel_rfl) rfl
theorem en203:∀ args w,(Go.callFunc 203 args).run Tryz.prog w=.ok (.enter 203 args) w:=enters_fn Tryz.func203 (by kernel_rfl) rfl
theorem en204:∀ args w,(Go.callFunc 204 args).run Tryz.prog w=.ok (.enter 204 args) w:=enters_fn Tryz.func204 (by kernel_rfl) rfl
theorem en205:∀ args w,(Go.callFunc 205 args).run Tryz.prog w=.ok (.enter 205 args) w:=enters_fn Tryz.func205 (by kernel_rfl) rfl
theorem en217:∀ args w,(Go.callFunc 217 args).run Tryz.prog w=.ok (.enter 217 args) w:=enters_fn Tryz.func217 (by kernel_rfl) rfl
theorem en218:∀ args w,(Go.callFunc 218 args).run Tryz.prog w=.ok (.enter 218 args) w:=enters_fn Tryz.func218 (by kernel_rfl) rfl
theorem en219:∀ args w,(Go.callFunc 219 args).run Tryz.prog w=.ok (.enter 219 args) w:=enters_fn Tryz.func219 (by kernel_rfl) rfl
theorem en227:∀ args w,(Go.callFunc 227 args).run Tryz.prog w=.ok (.enter 227 args) w:=enters_fn Tryz.func227 (by kernel_rfl) rfl
theorem en228:∀ args w,(Go.callFunc 228 args).run Tryz.prog w=.ok (.enter 228 args) w:=enters_fn Tryz.func228 (by kernel_rfl) rfl
theorem en234:∀ args w,(Go.callFunc 234 args).run Tryz.prog w=.ok (.enter 234 args) w:=enters_fn Tryz.func234 (by kernel_rfl) rfl
theorem en235:∀ args w,(Go.callFunc 235 args).run Tryz.prog w=.ok (.enter 235 args) w:=enters_fn Tryz.func235 (by kernel_rfl) rfl
theorem en242:∀ args w,(Go.callFunc 242 args).run Tryz.prog w=.ok (.enter 242 args) w:=enters_fn Tryz.func242 (by kernel_rfl) rfl
theorem en244:∀ args w,(Go.callFunc 244 args).run Tryz.prog w=.ok (.enter 244 args) w:=enters_fn Tryz.func244 (by kernel_rfl) rfl
theorem en245:∀ args w,(Go.callFunc 245 args).run Tryz.prog w=.ok (.enter 245 args) w:=enters_fn Tryz.func245 (by kernel_rfl) rfl
theorem en248:∀ args w,(Go.callFunc 248 args).run Tryz.prog w=.ok (.enter 248 args) w:=enters_fn Tryz.func248 (by kernel_rfl) rfl
theorem en250:∀ args w,(Go.callFunc 250 args).run Tryz.prog w=.ok (.enter 250 args) w:=enters_fn Tryz.func250 (by kernel_rfl) rfl
theorem en266:∀ args w,(Go.callFunc 266 args).run Tryz.prog w=.ok (.enter 266 args) w:=enters_fn Tryz.func266 (by kernel_rfl) rfl
theorem en267:∀ args w,(Go.callFunc 267 args).run Tryz.prog w=.ok (.enter 267 args) w:=enters_fn Tryz.func267 (by kernel_rfl) rfl
theorem mixedOk:Tryz.prog.follows .mixedOrders=true:=by kernel_rfl
end Go.Proofs.YtjicdgejhkgpgaaGreatDoor
