/-
  What the program's types are, for the abstract machine. No conditions.
-/
import Derived.Test.YtiilmjojffjhlaaGreatDoorProg
import Derived.Test.YtiilmjojffjhlaaGreatDoorKVm15
namespace Go.Proofs.YtiilmjojffjhlaaGreatDoor.Vm
open Go
set_option maxRecDepth 100000
@[simp] theorem ty2:τ Tryz.prog 2 = some ⟨1,8,false,[.int .i64 0],.int .i64⟩:=by kernel_rfl
@[simp] theorem un2:Tryz.prog.underlying 2 = some (.int .i64):=by kernel_rfl
@[simp] theorem ty3:τ Tryz.prog 3 = some ⟨1,8,false,[.int .i64 0],.int .i64⟩:=by kernel_rfl
@[simp] theorem un3:Tryz.prog.underlying 3 = some (.int .i64):=by kernel_rfl
@[simp] theorem ty4:τ Tryz.prog 4 = some ⟨1,1,false,[.bool false],.bool⟩:=by kernel_rfl
@[simp] theorem un4:Tryz.prog.underlying 4 = some (.bool):=by kernel_rfl
@[simp] theorem ty5:τ Tryz.prog 5 = some ⟨1,1,false,[.int .u8 0],.int .u8⟩:=by kernel_rfl
@[simp] theorem un5:Tryz.prog.underlying 5 = some (.int .u8):=by kernel_rfl
@[simp] theorem ty6:τ Tryz.prog 6 = some ⟨1,1,false,[.int .u8 0],.int .u8⟩:=by kernel_rfl
@[simp] theorem un6:Tryz.prog.underlying 6 = some (.int .u8):=by kernel_rfl
@[simp] theorem ty7:τ Tryz.prog 7 = some ⟨4,24,true,[.int .i64 0,.int .i64 0,.bool false,.int .u8 0],.struct #[{ name := "x",type:=2,offset:=0,embedded:=false,tag := "",pkgPath := "runtime",byteOffset:=0 },{ name := "y",type:=3,offset:=1,embedded:=false,tag := "",pkgPath := "runtime",byteOffset:=8 },{ name := "signed",type:=4,offset:=2,embedded:=false,tag := "",pkgPath := "runtime",byteOffset:=16 },{ name := "code",type:=6,offset:=3,embedded:=false,tag := "",pkgPath := "runtime",byteOffset:=17 }]⟩:=by kernel_rfl
@[simp] theorem un7:Tryz.prog.underlying 7 = some (.struct #[{ name := "x",type:=2,offset:=0,embedded:=false,tag := "",pkgPath := "runtime",byteOffset:=0 },{ name := "y",type:=3,offset:=1,embedded:=false,tag := "",pkgPath := "runtime",byteOffset:=8 },{ name := "signed",type:=4,offset:=2,embedded:=false,tag := "",pkgPath := "runtime",byteOffset:=16 },{ name := "code",type:=6,offset:=3,embedded:=false,tag := "",pkgPath := "runtime",byteOffset:=17 }]):=by kernel_rfl
@[simp] theorem ty8:τ Tryz.prog 8 = some ⟨4,24,true,[.int .i64 0,.int .i64 0,.bool false,.int .u8 0],.struct #[{ name := "x",type:=2,offset:=0,embedded:=false,tag := "",pkgPath := "runtime",byteOffset:=0 },{ name := "y",type:=3,offset:=1,embedded:=false,tag := "",pkgPath := "runtime",byteOffset:=8 },{ name := "signed",type:=4,offset:=2,embedded:=false,tag := "",pkgPath := "runtime",byteOffset:=16 },{ name := "code",type:=6,offset:=3,embedded:=false,tag := "",pkgPath := "runtime",byteOffset:=17 }]⟩:=by kernel_rfl
@[simp] theorem un8:Tryz.prog.underlying 8 = some (.struct #[{ name := "x",type:=2,offset:=0,embedded:=false,tag := "",pkgPath := "runtime",byteOffset:=0 },{ name := "y",type:=3,offset:=1,embedded:=false,tag := "",pkgPath := "runtime",byteOffset:=8 },{ name := "signed",type:=4,offset:=2,embedded:=false,tag := "",pkgPath := "runtime",byteOffset:=16 },{ name := "code",type:=6,offset:=3,embedded:=false,tag := "",pkgPath := "runtime",byteOffset:=17 }]):=by kernel_rfl
@[simp] theorem ty9:τ Tryz.prog 9 = some ⟨1,16,false,[.str []],.string⟩:=by kernel_rfl
@[simp] theorem un9:Tryz.prog.underlying 9 = some (.string):=by kernel_rfl
@[simp] theorem ty10:τ Tryz.prog 10 = some ⟨1,16,false,[.str []],.string⟩:=by kernel_rfl
@[simp] theorem un10:Tryz.prog.underlying 10 = some (.string):=by kernel_rfl
@[simp] theorem ty11:τ Tryz.prog 11 = some ⟨1,16,false,[.str []],.string⟩:=by kernel_rfl
@[simp] theorem un11:Tryz.prog.underlying 11 = some (.string):=by kernel_rfl
@[simp] theorem ty12:τ Tryz.prog 12 = some ⟨1,8,false,[.int .u64 0],.int .u64⟩:=by kernel_rfl
@[simp] theorem un12:Tryz.prog.underlying 12 = some (.int .u64):=by kernel_rfl
@[simp] theorem ty13:τ Tryz.prog 13 = some ⟨2,24,true,[.str [],.int .u64 0],.struct #[{ name := "msg",type:=9,offset:=0,embedded:=false,tag := "",pkgPath := "runtime",byteOffset:=0 },{ name := "addr",type:=12,offset:=1,embedded:=false,tag := "",pkgPath := "runtime",byteOffset:=16 }]⟩:=by kernel_rfl
@[simp] theorem un13:Tryz.prog.underlying 13 = some (.struct #[{ name := "msg",type:=9,offset:=0,embedded:=false,tag := "",pkgPath := "runtime",byteOffset:=0 },{ name := "addr",type:=12,offset:=1,embedded:=false,tag := "",pkgPath := "runtime",byteOffset:=16 }]):=by kernel_rfl
@[simp] theorem ty14:τ Tryz.prog 14 = some ⟨2,24,true,[.str [],.int .u64 0],.struct #[{ name := "msg",type:=9,offset:=0,embedded:=false,tag := "",pkgPath := "runtime",byteOffset:=0 },{ name := "addr",type:=12,offset:=1,embedded:=false,tag := "",pkgPath := "runtime",byteOffset:=16 }]⟩:=by kernel_rfl
@[simp] theorem un14:Tryz.prog.underlying 14 = some (.struct #[{ name := "msg",type:=9,offset:=0,embedded:=false,tag := "",pkgPath := "runtime",byteOffset:=0 },{ name := "addr",type:=12,offset:=1,embedded:=false,tag := "",pkgPath := "runtime",byteOffset:=16 }]):=by kernel_rfl
@[simp] theorem ty15:τ Tryz.prog 15 = some ⟨1,8,false,[.nilp],.pointer 253⟩:=by kernel_rfl
@[simp] theorem un15:Tryz.prog.underlying 15 = some (.pointer 253):=by kernel_rfl
@[simp] theorem ty17:τ Tryz.prog 17 = some ⟨1,8,false,[.nilp],.pointer 264⟩:=by kernel_rfl
@[simp] theorem un17:Tryz.prog.underlying 17 = some (.pointer 264):=by kernel_rfl
@[simp] theorem ty21:τ Tryz.prog 21 = some ⟨1,4,false,[.int .i32 0],.int .i32⟩:=by kernel_rfl
@[simp] theorem un21:Tryz.prog.underlying 21 = some (.int .i32):=by kernel_rfl
@[simp] theorem ty22:τ Tryz.prog 22 = some ⟨1,24,false,[.nil],.slice 3⟩:=by kernel_rfl
@[simp] theorem un22:Tryz.prog.underlying 22 = some (.slice 3):=by kernel_rfl
@[simp] theorem ty23:τ Tryz.prog 23 = some ⟨1,24,false,[.nil],.slice 4⟩:=by kernel_rfl
@[simp] theorem un23:Tryz.prog.underlying 23 = some (.slice 4):=by kernel_rfl
@[simp] theorem ty24:τ Tryz.prog 24 = some ⟨1,24,false,[.nil],.slice 49⟩:=by kernel_rfl
@[simp] theorem un24:Tryz.prog.underlying 24 = some (.slice 49):=by kernel_rfl
@[simp] theorem ty26:τ Tryz.prog 26 = some ⟨3,72,true,[.nil,.nil,.nil],.struct #[{ name := "Initial",type:=22,offset:=0,embedded:=false,tag := "",pkgPath := "",byteOffset:=0 },{ name := "Accepting",type:=23,offset:=1,embedded:=false,tag := "",pkgPath := "",byteOffset:=24 },{ name := "Edges",type:=24,offset:=2,embedded:=false,tag := "",pkgPath := "",byteOffset:=48 }]⟩:=by kernel_rfl
@[simp] theorem un26:Tryz.prog.underlying 26 = some (.struct #[{ name := "Initial",type:=22,offset:=0,embedded:=false,tag := "",pkgPath := "",byteOffset:=0 },{ name := "Accepting",type:=23,offset:=1,embedded:=false,tag := "",pkgPath := "",byteOffset:=24 },{ name := "Edges",type:=24,offset:=2,embedded:=false,tag := "",pkgPath := "",byteOffset:=48 }]):=by kernel_rfl
@[simp] theorem ty32:τ Tryz.prog 32 = some ⟨1,24,false,[.nil],.slice 5⟩:=by kernel_rfl
@[simp] theorem un32:Tryz.prog.underlying 32 = some (.slice 5):=by kernel_rfl
@[simp] theorem ty34:τ Tryz.prog 34 = some ⟨1,24,true,[.nil],.struct #[{ name := "Ranks",type:=22,offset:=0,embedded:=false,tag := "",pkgPath := "",byteOffset:=0 }]⟩:=by kernel_rfl
@[simp] theorem un34:Tryz.prog.underlying 34 = some (.struct #[{ name := "Ranks",type:=22,offset:=0,embedded:=false,tag := "",pkgPath := "",byteOffset:=0 }]):=by kernel_rfl
@[simp] theorem ty45:τ Tryz.prog 45 = some ⟨1,24,false,[.nil],.slice 9⟩:=by kernel_rfl
@[simp] theorem un45:Tryz.prog.underlying 45 = some (.slice 9):=by kernel_rfl
@[simp] theorem ty48:τ Tryz.prog 48 = some ⟨4,32,true,[.int .i64 0,.int .i64 0,.int .i64 0,.int .i64 0],.struct #[{ name := "From",type:=3,offset:=0,embedded:=false,tag := "",pkgPath := "",byteOffset:=0 },{ name := "Care",type:=3,offset:=1,embedded:=false,tag := "",pkgPath := "",byteOffset:=8 },{ name := "Value",type:=3,offset:=2,embedded:=false,tag := "",pkgPath := "",byteOffset:=16 },{ name := "To",type:=3,offset:=3,embedded:=false,tag := "",pkgPath := "",byteOffset:=24 }]⟩:=by kernel_rfl
@[simp] theorem un48:Tryz.prog.underlying 48 = some (.struct #[{ name := "From",type:=3,offset:=0,embedded:=false,tag := "",pkgPath := "",byteOffset:=0 },{ name := "Care",type:=3,offset:=1,embedded:=false,tag := "",pkgPath := "",byteOffset:=8 },{ name := "Value",type:=3,offset:=2,embedded:=false,tag := "",pkgPath := "",byteOffset:=16 },{ name := "To",type:=3,offset:=3,embedded:=false,tag := "",pkgPath := "",byteOffset:=24 }]):=by kernel_rfl
@[simp] theorem ty49:τ Tryz.prog 49 = some ⟨4,32,true,[.int .i64 0,.int .i64 0,.int .i64 0,.int .i64 0],.struct #[{ name := "From",type:=3,offset:=0,embedded:=false,tag := "",pkgPath := "",byteOffset:=0 },{ name := "Care",type:=3,offset:=1,embedded:=false,tag := "",pkgPath := "",byteOffset:=8 },{ name := "Value",type:=3,offset:=2,embedded:=false,tag := "",pkgPath := "",byteOffset:=16 },{ name := "To",type:=3,offset:=3,embedded:=false,tag := "",pkgPath := "",byteOffset:=24 }]⟩:=by kernel_rfl
@[simp] theorem un49:Tryz.prog.underlying 49 = some (.struct #[{ name := "From",type:=3,offset:=0,embedded:=false,tag := "",pkgPath := "",byteOffset:=0 },{ name := "Care",type:=3,offset:=1,embedded:=false,tag := "",pkgPath := "",byteOffset:=8 },{ name := "Value",type:=3,offset:=2,embedded:=false,tag := "",pkgPath := "",byteOffset:=16 },{ name := "To",type:=3,offset:=3,embedded:=false,tag := "",pkgPath := "",byteOffset:=24 }]):=by kernel_rfl
@[simp] theorem ty62:τ Tryz.prog 62 = some ⟨1,8,false,[.nilp],.pointer 64⟩:=by kernel_rfl
@[simp] theorem un62:Tryz.prog.underlying 62 = some (.pointer 64):=by kernel_rfl
@[simp] theorem ty63:τ Tryz.prog 63 = some ⟨2,32,true,[.nilp,.nil],.struct #[{ name := "addr",type:=62,offset:=0,embedded:=false,tag := "",pkgPath := "strings",byteOffset:=0 },{ name := "buf",type:=32,offset:=1,embedded:=false,tag := "",pkgPath := "strings",byteOffset:=8 }]⟩:=by kernel_rfl
@[simp] theorem un63:Tryz.prog.underlying 63 = some (.struct #[{ name := "addr",type:=62,offset:=0,embedded:=false,tag := "",pkgPath := "strings",byteOffset:=0 },{ name := "buf",type:=32,offset:=1,embedded:=false,tag := "",pkgPath := "strings",byteOffset:=8 }]):=by kernel_rfl
@[simp] theorem ty64:τ Tryz.prog 64 = some ⟨2,32,true,[.nilp,.nil],.struct #[{ name := "addr",type:=62,offset:=0,embedded:=false,tag := "",pkgPath := "strings",byteOffset:=0 },{ name := "buf",type:=32,offset:=1,embedded:=false,tag := "",pkgPath := "strings",byteOffset:=8 }]⟩:=by kernel_rfl
@[simp] theorem un64:Tryz.prog.underlying 64 = some (.struct #[{ name := "addr",type:=62,offset:=0,embedded:=false,tag := "",pkgPath := "strings",byteOffset:=0 },{ name := "buf",type:=32,offset:=1,embedded:=false,tag := "",pkgPath := "strings",byteOffset:=8 }]):=by kernel_rfl
@[simp] theorem ty74:τ Tryz.prog 74 = some ⟨1,24,false,[.nil],.slice 168⟩:=by kernel_rfl
@[simp] theorem un74:Tryz.prog.underlying 74 = some (.slice 168):=by kernel_rfl
@[simp] theorem ty75:τ Tryz.prog 75 = some ⟨1,24,false,[.nil],.slice 22⟩:=by kernel_rfl
@[simp] theorem un75:Tryz.prog.underlying 75 = some (.slice 22):=by kernel_rfl
@[simp] theorem ty77:τ Tryz.prog 77 = some ⟨2,48,true,[.nil,.nil],.struct #[{ name := "States",type:=74,offset:=0,embedded:=false,tag := "",pkgPath := "",byteOffset:=0 },{ name := "Next",type:=75,offset:=1,embedded:=false,tag := "",pkgPath := "",byteOffset:=24 }]⟩:=by kernel_rfl
@[simp] theorem un77:Tryz.prog.underlying 77 = some (.struct #[{ name := "States",type:=74,offset:=0,embedded:=false,tag := "",pkgPath := "",byteOffset:=0 },{ name := "Next",type:=75,offset:=1,embedded:=false,tag := "",pkgPath := "",byteOffset:=24 }]):=by kernel_rfl
@[simp] theorem ty78:τ Tryz.prog 78 = some ⟨1,24,false,[.nil],.slice 163⟩:=by kernel_rfl
@[simp] theorem un78:Tryz.prog.underlying 78 = some (.slice 163):=by kernel_rfl
@[simp] theorem ty94:τ Tryz.prog 94 = some ⟨1,8,false,[.nilp],.pointer 5⟩:=by kernel_rfl
@[simp] theorem un94:Tryz.prog.underlying 94 = some (.pointer 5):=by kernel_rfl
@[simp] theorem ty95:τ Tryz.prog 95 = some ⟨2,32,true,[.nil,.int .i64 0],.struct #[{ name := "b",type:=32,offset:=0,embedded:=false,tag := "",pkgPath := "loop.example/ltlcheck/spec",byteOffset:=0 },{ name := "p",type:=3,offset:=1,embedded:=false,tag := "",pkgPath := "loop.example/ltlcheck/spec",byteOffset:=24 }]⟩:=by kernel_rfl
@[simp] theorem un95:Tryz.prog.underlying 95 = some (.struct #[{ name := "b",type:=32,offset:=0,embedded:=false,tag := "",pkgPath := "loop.example/ltlcheck/spec",byteOffset:=0 },{ name := "p",type:=3,offset:=1,embedded:=false,tag := "",pkgPath := "loop.example/ltlcheck/spec",byteOffset:=24 }]):=by kernel_rfl
@[simp] theorem ty107:τ Tryz.prog 107 = some ⟨1,24,false,[.nil],.slice 109⟩:=by kernel_rfl
@[simp] theorem un107:Tryz.prog.underlying 107 = some (.slice 109):=by kernel_rfl
@[simp] theorem ty109:τ Tryz.prog 109 = some ⟨3,40,true,[.int .i64 0,.int .i64 0,.nil],.struct #[{ name := "Kind",type:=3,offset:=0,embedded:=false,tag := "",pkgPath := "",byteOffset:=0 },{ name := "Atom",type:=3,offset:=1,embedded:=false,tag := "",pkgPath := "",byteOffset:=8 },{ name := "Kids",type:=107,offset:=2,embedded:=false,tag := "",pkgPath := "",byteOffset:=16 }]⟩:=by kernel_rfl
@[simp] theorem un109:Tryz.prog.underlying 109 = some (.struct #[{ name := "Kind",type:=3,offset:=0,embedded:=false,tag := "",pkgPath := "",byteOffset:=0 },{ name := "Atom",type:=3,offset:=1,embedded:=false,tag := "",pkgPath := "",byteOffset:=8 },{ name := "Kids",type:=107,offset:=2,embedded:=false,tag := "",pkgPath := "",byteOffset:=16 }]):=by kernel_rfl
@[simp] theorem ty135:τ Tryz.prog 135 = some ⟨1,8,false,[.int .u64 0],.int .u64⟩:=by kernel_rfl
@[simp] theorem un135:Tryz.prog.underlying 135 = some (.int .u64):=by kernel_rfl
@[simp] theorem ty150:τ Tryz.prog 150 = some ⟨1,8,false,[.int .i64 0],.int .i64⟩:=by kernel_rfl
@[simp] theorem un150:Tryz.prog.underlying 150 = some (.int .i64):=by kernel_rfl
@[simp] theorem ty153:τ Tryz.prog 153 = some ⟨1,8,false,[.nilp],.pointer 196⟩:=by kernel_rfl
@[simp] theorem un153:Tryz.prog.underlying 153 = some (.pointer 196):=by kernel_rfl
@[simp] theorem ty157:τ Tryz.prog 157 = some ⟨1,8,false,[.int .u64 0],.int .u64⟩:=by kernel_rfl
@[simp] theorem un157:Tryz.prog.underlying 157 = some (.int .u64):=by kernel_rfl
@[simp] theorem ty163:τ Tryz.prog 163 = some ⟨3,40,true,[.int .i64 0,.int .i64 0,.nil],.struct #[{ name := "Kind",type:=3,offset:=0,embedded:=false,tag := "",pkgPath := "",byteOffset:=0 },{ name := "Value",type:=3,offset:=1,embedded:=false,tag := "",pkgPath := "",byteOffset:=8 },{ name := "Kids",type:=78,offset:=2,embedded:=false,tag := "",pkgPath := "",byteOffset:=16 }]⟩:=by kernel_rfl
@[simp] theorem un163:Tryz.prog.underlying 163 = some (.struct #[{ name := "Kind",type:=3,offset:=0,embedded:=false,tag := "",pkgPath := "",byteOffset:=0 },{ name := "Value",type:=3,offset:=1,embedded:=false,tag := "",pkgPath := "",byteOffset:=8 },{ name := "Kids",type:=78,offset:=2,embedded:=false,tag := "",pkgPath := "",byteOffset:=16 }]):=by kernel_rfl
@[simp] theorem ty168:τ Tryz.prog 168 = some ⟨2,48,true,[.nil,.nil],.struct #[{ name := "Locs",type:=22,offset:=0,embedded:=false,tag := "",pkgPath := "",byteOffset:=0 },{ name := "Vals",type:=22,offset:=1,embedded:=false,tag := "",pkgPath := "",byteOffset:=24 }]⟩:=by kernel_rfl
@[simp] theorem un168:Tryz.prog.underlying 168 = some (.struct #[{ name := "Locs",type:=22,offset:=0,embedded:=false,tag := "",pkgPath := "",byteOffset:=0 },{ name := "Vals",type:=22,offset:=1,embedded:=false,tag := "",pkgPath := "",byteOffset:=24 }]):=by kernel_rfl
@[simp] theorem ty196:τ Tryz.prog 196 = some ⟨3,48,true,[.str [],.str [],.any],.struct #[{ name := "Func",type:=9,offset:=0,embedded:=false,tag := "",pkgPath := "",byteOffset:=0 },{ name := "Num",type:=9,offset:=1,embedded:=false,tag := "",pkgPath := "",byteOffset:=16 },{ name := "Err",type:=66,offset:=2,embedded:=false,tag := "",pkgPath := "",byteOffset:=32 }]⟩:=by kernel_rfl
@[simp] theorem un196:Tryz.prog.underlying 196 = some (.struct #[{ name := "Func",type:=9,offset:=0,embedded:=false,tag := "",pkgPath := "",byteOffset:=0 },{ name := "Num",type:=9,offset:=1,embedded:=false,tag := "",pkgPath := "",byteOffset:=16 },{ name := "Err",type:=66,offset:=2,embedded:=false,tag := "",pkgPath := "",byteOffset:=32 }]):=by kernel_rfl
@[simp] theorem ty200:τ Tryz.prog 200 = some ⟨1,4,false,[.int .u32 0],.int .u32⟩:=by kernel_rfl
@[simp] theorem un200:Tryz.prog.underlying 200 = some (.int .u32):=by kernel_rfl
@[simp] theorem ty212:τ Tryz.prog 212 = some ⟨4,32,true,[.int .i64 0,.int .i64 0,.int .i64 0,.int .i64 0],.struct #[{ name := "Process",type:=3,offset:=0,embedded:=false,tag := "",pkgPath := "",byteOffset:=0 },{ name := "Edge",type:=3,offset:=1,embedded:=false,tag := "",pkgPath := "",byteOffset:=8 },{ name := "Partner",type:=3,offset:=2,embedded:=false,tag := "",pkgPath := "",byteOffset:=16 },{ name := "PartnerEdge",type:=3,offset:=3,embedded:=false,tag := "",pkgPath := "",byteOffset:=24 }]⟩:=by kernel_rfl
@[simp] theorem un212:Tryz.prog.underlying 212 = some (.struct #[{ name := "Process",type:=3,offset:=0,embedded:=false,tag := "",pkgPath := "",byteOffset:=0 },{ name := "Edge",type:=3,offset:=1,embedded:=false,tag := "",pkgPath := "",byteOffset:=8 },{ name := "Partner",type:=3,offset:=2,embedded:=false,tag := "",pkgPath := "",byteOffset:=16 },{ name := "PartnerEdge",type:=3,offset:=3,embedded:=false,tag := "",pkgPath := "",byteOffset:=24 }]):=by kernel_rfl
@[simp] theorem ty216:τ Tryz.prog 216 = some ⟨1,24,false,[.nil],.slice 220⟩:=by kernel_rfl
@[simp] theorem un216:Tryz.prog.underlying 216 = some (.slice 220):=by kernel_rfl
@[simp] theorem ty220:τ Tryz.prog 220 = some ⟨10,112,true,[.int .i64 0,.int .i64 0,.int .i64 0,.int .i64 0,.nil,.int .i64 0,.int .i64 0,.int .i64 0,.nil,.int .i64 0],.struct #[{ name := "From",type:=3,offset:=0,embedded:=false,tag := "",pkgPath := "",byteOffset:=0 },{ name := "To",type:=3,offset:=1,embedded:=false,tag := "",pkgPath := "",byteOffset:=8 },{ name := "Guard",type:=163,offset:=2,embedded:=false,tag := "",pkgPath := "",byteOffset:=16 },{ name := "Var",type:=3,offset:=5,embedded:=false,tag := "",pkgPath := "",byteOffset:=56 },{ name := "Value",type:=163,offset:=6,embedded:=false,tag := "",pkgPath := "",byteOffset:=64 },{ name := "Sync",type:=3,offset:=9,embedded:=false,tag := "",pkgPath := "",byteOffset:=104 }]⟩:=by kernel_rfl
@[simp] theorem un220:Tryz.prog.underlying 220 = some (.struct #[{ name := "From",type:=3,offset:=0,embedded:=false,tag := "",pkgPath := "",byteOffset:=0 },{ name := "To",type:=3,offset:=1,embedded:=false,tag := "",pkgPath := "",byteOffset:=8 },{ name := "Guard",type:=163,offset:=2,embedded:=false,tag := "",pkgPath := "",byteOffset:=16 },{ name := "Var",type:=3,offset:=5,embedded:=false,tag := "",pkgPath := "",byteOffset:=56 },{ name := "Value",type:=163,offset:=6,embedded:=false,tag := "",pkgPath := "",byteOffset:=64 },{ name := "Sync",type:=3,offset:=9,embedded:=false,tag := "",pkgPath := "",byteOffset:=104 }]):=by kernel_rfl
@[simp] theorem ty229:τ Tryz.prog 229 = some ⟨2,2,true,[.int .u8 0,.int .u8 0],.struct #[{ name := "lo",type:=5,offset:=0,embedded:=false,tag := "",pkgPath := "unicode/utf8",byteOffset:=0 },{ name := "hi",type:=5,offset:=1,embedded:=false,tag := "",pkgPath := "unicode/utf8",byteOffset:=1 }]⟩:=by kernel_rfl
@[simp] theorem un229:Tryz.prog.underlying 229 = some (.struct #[{ name := "lo",type:=5,offset:=0,embedded:=false,tag := "",pkgPath := "unicode/utf8",byteOffset:=0 },{ name := "hi",type:=5,offset:=1,embedded:=false,tag := "",pkgPath := "unicode/utf8",byteOffset:=1 }]):=by kernel_rfl
@[simp] theorem ty234:τ Tryz.prog 234 = some ⟨1,8,false,[.nilp],.pointer 236⟩:=by kernel_rfl
@[simp] theorem un234:Tryz.prog.underlying 234 = some (.pointer 236):=by kernel_rfl
@[simp] theorem ty236:τ Tryz.prog 236 = some ⟨1,16,true,[.str []],.struct #[{ name := "s",type:=9,offset:=0,embedded:=false,tag := "",pkgPath := "errors",byteOffset:=0 }]⟩:=by kernel_rfl
@[simp] theorem un236:Tryz.prog.underlying 236 = some (.struct #[{ name := "s",type:=9,offset:=0,embedded:=false,tag := "",pkgPath := "errors",byteOffset:=0 }]):=by kernel_rfl
@[simp] theorem ty253:τ Tryz.prog 253 = some ⟨4,40,true,[.nilp,.nilp,.nilp,.str []],.struct #[{ name := "_interface",type:=17,offset:=0,embedded:=false,tag := "",pkgPath := "runtime",byteOffset:=0 },{ name := "concrete",type:=17,offset:=1,embedded:=false,tag := "",pkgPath := "runtime",byteOffset:=8 },{ name := "asserted",type:=17,offset:=2,embedded:=false,tag := "",pkgPath := "runtime",byteOffset:=16 },{ name := "missingMethod",type:=9,offset:=3,embedded:=false,tag := "",pkgPath := "runtime",byteOffset:=24 }]⟩:=by kernel_rfl
@[simp] theorem un253:Tryz.prog.underlying 253 = some (.struct #[{ name := "_interface",type:=17,offset:=0,embedded:=false,tag := "",pkgPath := "runtime",byteOffset:=0 },{ name := "concrete",type:=17,offset:=1,embedded:=false,tag := "",pkgPath := "runtime",byteOffset:=8 },{ name := "asserted",type:=17,offset:=2,embedded:=false,tag := "",pkgPath := "runtime",byteOffset:=16 },{ name := "missingMethod",type:=9,offset:=3,embedded:=false,tag := "",pkgPath := "runtime",byteOffset:=24 }]):=by kernel_rfl
@[simp] theorem ty258:τ Tryz.prog 258 = some ⟨1,1,false,[.int .u8 0],.int .u8⟩:=by kernel_rfl
@[simp] theorem un258:Tryz.prog.underlying 258 = some (.int .u8):=by kernel_rfl
@[simp] theorem ty259:τ Tryz.prog 259 = some ⟨1,1,false,[.int .u8 0],.int .u8⟩:=by kernel_rfl
@[simp] theorem un259:Tryz.prog.underlying 259 = some (.int .u8):=by kernel_rfl
@[simp] theorem ty261:τ Tryz.prog 261 = some ⟨1,4,false,[.int .i32 0],.int .i32⟩:=by kernel_rfl
@[simp] theorem un261:Tryz.prog.underlying 261 = some (.int .i32):=by kernel_rfl
@[simp] theorem ty262:τ Tryz.prog 262 = some ⟨1,4,false,[.int .i32 0],.int .i32⟩:=by kernel_rfl
@[simp] theorem un262:Tryz.prog.underlying 262 = some (.int .i32):=by kernel_rfl
@[simp] theorem ty264:τ Tryz.prog 264 = some ⟨11,48,true,[.int .u64 0,.int .u64 0,.int .u32 0,.int .u8 0,.int .u8 0,.int .u8 0,.int .u8 0,.any,.nilp,.int .i32 0,.int .i32 0],.struct #[{ name := "Size_",type:=12,offset:=0,embedded:=false,tag := "",pkgPath := "",byteOffset:=0 },{ name := "PtrBytes",type:=12,offset:=1,embedded:=false,tag := "",pkgPath := "",byteOffset:=8 },{ name := "Hash",type:=200,offset:=2,embedded:=false,tag := "",pkgPath := "",byteOffset:=16 },{ name := "TFlag",type:=258,offset:=3,embedded:=false,tag := "",pkgPath := "",byteOffset:=20 },{ name := "Align_",type:=5,offset:=4,embedded:=false,tag := "",pkgPath := "",byteOffset:=21 },{ name := "FieldAlign_",type:=5,offset:=5,embedded:=false,tag := "",pkgPath := "",byteOffset:=22 },{ name := "Kind_",type:=259,offset:=6,embedded:=false,tag := "",pkgPath := "",byteOffset:=23 },{ name := "Equal",type:=260,offset:=7,embedded:=false,tag := "",pkgPath := "",byteOffset:=24 },{ name := "GCData",type:=94,offset:=8,embedded:=false,tag := "",pkgPath := "",byteOffset:=32 },{ name := "Str",type:=261,offset:=9,embedded:=false,tag := "",pkgPath := "",byteOffset:=40 },{ name := "PtrToThis",type:=262,offset:=10,embedded:=false,tag := "",pkgPath := "",byteOffset:=44 }]⟩:=by kernel_rfl
@[simp] theorem un264:Tryz.prog.underlying 264 = some (.struct #[{ name := "Size_",type:=12,offset:=0,embedded:=false,tag := "",pkgPath := "",byteOffset:=0 },{ name := "PtrBytes",type:=12,offset:=1,embedded:=false,tag := "",pkgPath := "",byteOffset:=8 },{ name := "Hash",type:=200,offset:=2,embedded:=false,tag := "",pkgPath := "",byteOffset:=16 },{ name := "TFlag",type:=258,offset:=3,embedded:=false,tag := "",pkgPath := "",byteOffset:=20 },{ name := "Align_",type:=5,offset:=4,embedded:=false,tag := "",pkgPath := "",byteOffset:=21 },{ name := "FieldAlign_",type:=5,offset:=5,embedded:=false,tag := "",pkgPath := "",byteOffset:=22 },{ name := "Kind_",type:=259,offset:=6,embedded:=false,tag := "",pkgPath := "",byteOffset:=23 },{ name := "Equal",type:=260,offset:=7,embedded:=false,tag := "",pkgPath := "",byteOffset:=24 },{ name := "GCData",type:=94,offset:=8,embedded:=false,tag := "",pkgPath := "",byteOffset:=32 },{ name := "Str",type:=261,offset:=9,embedded:=false,tag := "",pkgPath := "",byteOffset:=40 },{ name := "PtrToThis",type:=262,offset:=10,embedded:=false,tag := "",pkgPath := "",byteOffset:=44 }]):=by kernel_rfl
end Go.Proofs.YtiilmjojffjhlaaGreatDoor.Vm
