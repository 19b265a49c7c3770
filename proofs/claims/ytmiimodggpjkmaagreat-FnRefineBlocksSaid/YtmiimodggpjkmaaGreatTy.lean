/-
  What the program's types are, for the abstract machine. No conditions.
-/
import Derived.Test.YtmiimodggpjkmaaGreatProg
import Derived.Test.YtmiimodggpjkmaaGreatVm15
namespace Go.Proofs.YtmiimodggpjkmaaGreat.Vm
open Go
set_option maxRecDepth 100000
@[simp] theorem ty2:τ Tryz.prog 2 = some ⟨1,8,false,[.int .i64 0],.int .i64⟩:=by kernel_rfl
@[simp] theorem un2:Tryz.prog.underlying 2 = some (.int .i64):=by kernel_rfl
@[simp] theorem ty3:τ Tryz.prog 3 = some ⟨1,8,false,[.int .i64 0],.int .i64⟩:=by kernel_rfl
@[simp] theorem un3:Tryz.prog.underlying 3 = some (.int .i64):=by kernel_rfl
@[simp] theorem ty4:τ Tryz.prog 4 = some ⟨1,1,false,[.bool false],.bool⟩:=by kernel_rfl
@[simp] theorem un4:Tryz.prog.underlying 4 = some (.bool):=by kernel_rfl
@[simp] theorem ty5:τ Tryz.prog 5 = some ⟨1,1,false,[.int .u8 0],.int .u8⟩:=by kernel_rfl
@[simp] theorem un5:Tryz.prog.underlying 5 = some (.int .u8):=by kernel_rfl
@[simp] theorem ty6:τ Tryz.prog 6 = some ⟨1,1,false,[.int .u8 0],.int .u8⟩:=by kernel_rfl
@[simp] theorem un6:Tryz.prog.underlying 6 = some (.int .u8):=by kernel_rfl
@[simp] theorem ty7:τ Tryz.prog 7 = some ⟨4,24,true,[.int .i64 0,.int .i64 0,.bool false,.int .u8 0],.struct #[{ name := "x",type:=2,offset:=0,embedded:=false,tag := "",pkgPath := "runtime",byteOffset:=0 },{ name := "y",type:=3,offset:=1,embedded:=false,tag := "",pkgPath := "runtime",byteOffset:=8 },{ name := "signed",type:=4,offset:=2,embedded:=false,tag := "",pkgPath := "runtime",byteOffset:=16 },{ name := "code",type:=6,offset:=3,embedded:=false,tag := "",pkgPath := "runtime",byteOffset:=17 }]⟩:=by kernel_rfl
@[simp] theorem un7:Tryz.prog.underlying 7 = some (.struct #[{ name := "x",type:=2,offset:=0,embedded:=false,tag := "",pkgPath := "runtime",byteOffset:=0 },{ name := "y",type:=3,offset:=1,embedded:=false,tag := "",pkgPath := "runtime",byteOffset:=8 },{ name := "signed",type:=4,offset:=2,embedded:=false,tag := "",pkgPath := "runtime",byteOffset:=16 },{ name := "code",type:=6,offset:=3,embedded:=false,tag := "",pkgPath := "runtime",byteOffset:=17 }]):=by kernel_rfl
@[simp] theorem ty8:τ Tryz.prog 8 = some ⟨4,24,true,[.int .i64 0,.int .i64 0,.bool false,.int .u8 0],.struct #[{ name := "x",type:=2,offset:=0,embedded:=false,tag := "",pkgPath := "runtime",byteOffset:=0 },{ name := "y",type:=3,offset:=1,embedded:=false,tag := "",pkgPath := "runtime",byteOffset:=8 },{ name := "signed",type:=4,offset:=2,embedded:=false,tag := "",pkgPath := "runtime",byteOffset:=16 },{ name := "code",type:=6,offset:=3,embedded:=false,tag := "",pkgPath := "runtime",byteOffset:=17 }]⟩:=by kernel_rfl
@[simp] theorem un8:Tryz.prog.underlying 8 = some (.struct #[{ name := "x",type:=2,offset:=0,embedded:=false,tag := "",pkgPath := "runtime",byteOffset:=0 },{ name := "y",type:=3,offset:=1,embedded:=false,tag := "",pkgPath := "runtime",byteOffset:=8 },{ name := "signed",type:=4,offset:=2,embedded:=false,tag := "",pkgPath := "runtime",byteOffset:=16 },{ name := "code",type:=6,offset:=3,embedded:=false,tag := "",pkgPath := "runtime",byteOffset:=17 }]):=by kernel_rfl
@[simp] theorem ty9:τ Tryz.prog 9 = some ⟨1,16,false,[.str []],.string⟩:=by kernel_rfl
@[simp] theorem un9:Tryz.prog.underlying 9 = some (.string):=by kernel_rfl
@[simp] theorem ty10:τ Tryz.prog 10 = some ⟨1,16,false,[.str []],.string⟩:=by kernel_rfl
@[simp] theorem un10:Tryz.prog.underlying 10 = some (.string):=by kernel_rfl
@[simp] theorem ty11:τ Tryz.prog 11 = some ⟨1,16,false,[.str []],.string⟩:=by kernel_rfl
@[simp] theorem un11:Tryz.prog.underlying 11 = some (.string):=by kernel_rfl
@[simp] theorem ty12:τ Tryz.prog 12 = some ⟨1,8,false,[.int .u64 0],.int .u64⟩:=by kernel_rfl
@[simp] theorem un12:Tryz.prog.underlying 12 = some (.int .u64):=by kernel_rfl
@[simp] theorem ty13:τ Tryz.prog 13 = some ⟨2,24,true,[.str [],.int .u64 0],.struct #[{ name := "msg",type:=9,offset:=0,embedded:=false,tag := "",pkgPath := "runtime",byteOffset:=0 },{ name := "addr",type:=12,offset:=1,embedded:=false,tag := "",pkgPath := "runtime",byteOffset:=16 }]⟩:=by kernel_rfl
@[simp] theorem un13:Tryz.prog.underlying 13 = some (.struct #[{ name := "msg",type:=9,offset:=0,embedded:=false,tag := "",pkgPath := "runtime",byteOffset:=0 },{ name := "addr",type:=12,offset:=1,embedded:=false,tag := "",pkgPath := "runtime",byteOffset:=16 }]):=by kernel_rfl
@[simp] theorem ty14:τ Tryz.prog 14 = some ⟨2,24,true,[.str [],.int .u64 0],.struct #[{ name := "msg",type:=9,offset:=0,embedded:=false,tag := "",pkgPath := "runtime",byteOffset:=0 },{ name := "addr",type:=12,offset:=1,embedded:=false,tag := "",pkgPath := "runtime",byteOffset:=16 }]⟩:=by kernel_rfl
@[simp] theorem un14:Tryz.prog.underlying 14 = some (.struct #[{ name := "msg",type:=9,offset:=0,embedded:=false,tag := "",pkgPath := "runtime",byteOffset:=0 },{ name := "addr",type:=12,offset:=1,embedded:=false,tag := "",pkgPath := "runtime",byteOffset:=16 }]):=by kernel_rfl
@[simp] theorem ty15:τ Tryz.prog 15 = some ⟨1,8,false,[.nilp],.pointer 142⟩:=by kernel_rfl
@[simp] theorem un15:Tryz.prog.underlying 15 = some (.pointer 142):=by kernel_rfl
@[simp] theorem ty17:τ Tryz.prog 17 = some ⟨1,8,false,[.nilp],.pointer 154⟩:=by kernel_rfl
@[simp] theorem un17:Tryz.prog.underlying 17 = some (.pointer 154):=by kernel_rfl
@[simp] theorem ty18:τ Tryz.prog 18 = some ⟨1,8,true,[.nilp],.struct #[{ name := "typ",type:=17,offset:=0,embedded:=false,tag := "",pkgPath := "internal/runtime/maps",byteOffset:=0 }]⟩:=by kernel_rfl
@[simp] theorem un18:Tryz.prog.underlying 18 = some (.struct #[{ name := "typ",type:=17,offset:=0,embedded:=false,tag := "",pkgPath := "internal/runtime/maps",byteOffset:=0 }]):=by kernel_rfl
@[simp] theorem ty19:τ Tryz.prog 19 = some ⟨1,8,true,[.nilp],.struct #[{ name := "typ",type:=17,offset:=0,embedded:=false,tag := "",pkgPath := "internal/runtime/maps",byteOffset:=0 }]⟩:=by kernel_rfl
@[simp] theorem un19:Tryz.prog.underlying 19 = some (.struct #[{ name := "typ",type:=17,offset:=0,embedded:=false,tag := "",pkgPath := "internal/runtime/maps",byteOffset:=0 }]):=by kernel_rfl
@[simp] theorem ty22:τ Tryz.prog 22 = some ⟨1,24,false,[.nil],.slice 5⟩:=by kernel_rfl
@[simp] theorem un22:Tryz.prog.underlying 22 = some (.slice 5):=by kernel_rfl
@[simp] theorem ty23:τ Tryz.prog 23 = some ⟨1,24,false,[.nil],.slice 56⟩:=by kernel_rfl
@[simp] theorem un23:Tryz.prog.underlying 23 = some (.slice 56):=by kernel_rfl
@[simp] theorem ty24:τ Tryz.prog 24 = some ⟨1,24,false,[.nil],.slice 27⟩:=by kernel_rfl
@[simp] theorem un24:Tryz.prog.underlying 24 = some (.slice 27):=by kernel_rfl
@[simp] theorem ty26:τ Tryz.prog 26 = some ⟨2,48,true,[.nil,.nil],.struct #[{ name := "States",type:=23,offset:=0,embedded:=false,tag := "",pkgPath := "",byteOffset:=0 },{ name := "Next",type:=24,offset:=1,embedded:=false,tag := "",pkgPath := "",byteOffset:=24 }]⟩:=by kernel_rfl
@[simp] theorem un26:Tryz.prog.underlying 26 = some (.struct #[{ name := "States",type:=23,offset:=0,embedded:=false,tag := "",pkgPath := "",byteOffset:=0 },{ name := "Next",type:=24,offset:=1,embedded:=false,tag := "",pkgPath := "",byteOffset:=24 }]):=by kernel_rfl
@[simp] theorem ty27:τ Tryz.prog 27 = some ⟨1,24,false,[.nil],.slice 3⟩:=by kernel_rfl
@[simp] theorem un27:Tryz.prog.underlying 27 = some (.slice 3):=by kernel_rfl
@[simp] theorem ty40:τ Tryz.prog 40 = some ⟨1,8,false,[.nilp],.pointer 61⟩:=by kernel_rfl
@[simp] theorem un40:Tryz.prog.underlying 40 = some (.pointer 61):=by kernel_rfl
@[simp] theorem ty42:τ Tryz.prog 42 = some ⟨1,24,false,[.nil],.slice 64⟩:=by kernel_rfl
@[simp] theorem un42:Tryz.prog.underlying 42 = some (.slice 64):=by kernel_rfl
@[simp] theorem ty55:τ Tryz.prog 55 = some ⟨2,48,true,[.nil,.nil],.struct #[{ name := "Locs",type:=27,offset:=0,embedded:=false,tag := "",pkgPath := "",byteOffset:=0 },{ name := "Vals",type:=27,offset:=1,embedded:=false,tag := "",pkgPath := "",byteOffset:=24 }]⟩:=by kernel_rfl
@[simp] theorem un55:Tryz.prog.underlying 55 = some (.struct #[{ name := "Locs",type:=27,offset:=0,embedded:=false,tag := "",pkgPath := "",byteOffset:=0 },{ name := "Vals",type:=27,offset:=1,embedded:=false,tag := "",pkgPath := "",byteOffset:=24 }]):=by kernel_rfl
@[simp] theorem ty56:τ Tryz.prog 56 = some ⟨2,48,true,[.nil,.nil],.struct #[{ name := "Locs",type:=27,offset:=0,embedded:=false,tag := "",pkgPath := "",byteOffset:=0 },{ name := "Vals",type:=27,offset:=1,embedded:=false,tag := "",pkgPath := "",byteOffset:=24 }]⟩:=by kernel_rfl
@[simp] theorem un56:Tryz.prog.underlying 56 = some (.struct #[{ name := "Locs",type:=27,offset:=0,embedded:=false,tag := "",pkgPath := "",byteOffset:=0 },{ name := "Vals",type:=27,offset:=1,embedded:=false,tag := "",pkgPath := "",byteOffset:=24 }]):=by kernel_rfl
@[simp] theorem ty61:τ Tryz.prog 61 = some ⟨2,32,true,[.nil,.int .i64 0],.struct #[{ name := "b",type:=22,offset:=0,embedded:=false,tag := "",pkgPath := "loop.example/ltlcheck/spec",byteOffset:=0 },{ name := "p",type:=3,offset:=1,embedded:=false,tag := "",pkgPath := "loop.example/ltlcheck/spec",byteOffset:=24 }]⟩:=by kernel_rfl
@[simp] theorem un61:Tryz.prog.underlying 61 = some (.struct #[{ name := "b",type:=22,offset:=0,embedded:=false,tag := "",pkgPath := "loop.example/ltlcheck/spec",byteOffset:=0 },{ name := "p",type:=3,offset:=1,embedded:=false,tag := "",pkgPath := "loop.example/ltlcheck/spec",byteOffset:=24 }]):=by kernel_rfl
@[simp] theorem ty64:τ Tryz.prog 64 = some ⟨3,40,true,[.int .i64 0,.int .i64 0,.nil],.struct #[{ name := "Kind",type:=3,offset:=0,embedded:=false,tag := "",pkgPath := "",byteOffset:=0 },{ name := "Value",type:=3,offset:=1,embedded:=false,tag := "",pkgPath := "",byteOffset:=8 },{ name := "Kids",type:=42,offset:=2,embedded:=false,tag := "",pkgPath := "",byteOffset:=16 }]⟩:=by kernel_rfl
@[simp] theorem un64:Tryz.prog.underlying 64 = some (.struct #[{ name := "Kind",type:=3,offset:=0,embedded:=false,tag := "",pkgPath := "",byteOffset:=0 },{ name := "Value",type:=3,offset:=1,embedded:=false,tag := "",pkgPath := "",byteOffset:=8 },{ name := "Kids",type:=42,offset:=2,embedded:=false,tag := "",pkgPath := "",byteOffset:=16 }]):=by kernel_rfl
@[simp] theorem ty69:τ Tryz.prog 69 = some ⟨1,24,false,[.nil],.slice 96⟩:=by kernel_rfl
@[simp] theorem un69:Tryz.prog.underlying 69 = some (.slice 96):=by kernel_rfl
@[simp] theorem ty70:τ Tryz.prog 70 = some ⟨2,48,true,[.nil,.nil],.struct #[{ name := "Init",type:=27,offset:=0,embedded:=false,tag := "",pkgPath := "",byteOffset:=0 },{ name := "Processes",type:=69,offset:=1,embedded:=false,tag := "",pkgPath := "",byteOffset:=24 }]⟩:=by kernel_rfl
@[simp] theorem un70:Tryz.prog.underlying 70 = some (.struct #[{ name := "Init",type:=27,offset:=0,embedded:=false,tag := "",pkgPath := "",byteOffset:=0 },{ name := "Processes",type:=69,offset:=1,embedded:=false,tag := "",pkgPath := "",byteOffset:=24 }]):=by kernel_rfl
@[simp] theorem ty71:τ Tryz.prog 71 = some ⟨2,48,true,[.nil,.nil],.struct #[{ name := "Init",type:=27,offset:=0,embedded:=false,tag := "",pkgPath := "",byteOffset:=0 },{ name := "Processes",type:=69,offset:=1,embedded:=false,tag := "",pkgPath := "",byteOffset:=24 }]⟩:=by kernel_rfl
@[simp] theorem un71:Tryz.prog.underlying 71 = some (.struct #[{ name := "Init",type:=27,offset:=0,embedded:=false,tag := "",pkgPath := "",byteOffset:=0 },{ name := "Processes",type:=69,offset:=1,embedded:=false,tag := "",pkgPath := "",byteOffset:=24 }]):=by kernel_rfl
@[simp] theorem ty77:τ Tryz.prog 77 = some ⟨1,8,false,[.int .u64 0],.int .u64⟩:=by kernel_rfl
@[simp] theorem un77:Tryz.prog.underlying 77 = some (.int .u64):=by kernel_rfl
@[simp] theorem ty88:τ Tryz.prog 88 = some ⟨1,24,false,[.nil],.slice 92⟩:=by kernel_rfl
@[simp] theorem un88:Tryz.prog.underlying 88 = some (.slice 92):=by kernel_rfl
@[simp] theorem ty91:τ Tryz.prog 91 = some ⟨4,32,true,[.int .i64 0,.int .i64 0,.int .i64 0,.int .i64 0],.struct #[{ name := "Process",type:=3,offset:=0,embedded:=false,tag := "",pkgPath := "",byteOffset:=0 },{ name := "Edge",type:=3,offset:=1,embedded:=false,tag := "",pkgPath := "",byteOffset:=8 },{ name := "Partner",type:=3,offset:=2,embedded:=false,tag := "",pkgPath := "",byteOffset:=16 },{ name := "PartnerEdge",type:=3,offset:=3,embedded:=false,tag := "",pkgPath := "",byteOffset:=24 }]⟩:=by kernel_rfl
@[simp] theorem un91:Tryz.prog.underlying 91 = some (.struct #[{ name := "Process",type:=3,offset:=0,embedded:=false,tag := "",pkgPath := "",byteOffset:=0 },{ name := "Edge",type:=3,offset:=1,embedded:=false,tag := "",pkgPath := "",byteOffset:=8 },{ name := "Partner",type:=3,offset:=2,embedded:=false,tag := "",pkgPath := "",byteOffset:=16 },{ name := "PartnerEdge",type:=3,offset:=3,embedded:=false,tag := "",pkgPath := "",byteOffset:=24 }]):=by kernel_rfl
@[simp] theorem ty92:τ Tryz.prog 92 = some ⟨4,32,true,[.int .i64 0,.int .i64 0,.int .i64 0,.int .i64 0],.struct #[{ name := "Process",type:=3,offset:=0,embedded:=false,tag := "",pkgPath := "",byteOffset:=0 },{ name := "Edge",type:=3,offset:=1,embedded:=false,tag := "",pkgPath := "",byteOffset:=8 },{ name := "Partner",type:=3,offset:=2,embedded:=false,tag := "",pkgPath := "",byteOffset:=16 },{ name := "PartnerEdge",type:=3,offset:=3,embedded:=false,tag := "",pkgPath := "",byteOffset:=24 }]⟩:=by kernel_rfl
@[simp] theorem un92:Tryz.prog.underlying 92 = some (.struct #[{ name := "Process",type:=3,offset:=0,embedded:=false,tag := "",pkgPath := "",byteOffset:=0 },{ name := "Edge",type:=3,offset:=1,embedded:=false,tag := "",pkgPath := "",byteOffset:=8 },{ name := "Partner",type:=3,offset:=2,embedded:=false,tag := "",pkgPath := "",byteOffset:=16 },{ name := "PartnerEdge",type:=3,offset:=3,embedded:=false,tag := "",pkgPath := "",byteOffset:=24 }]):=by kernel_rfl
@[simp] theorem ty94:τ Tryz.prog 94 = some ⟨1,24,false,[.nil],.slice 98⟩:=by kernel_rfl
@[simp] theorem un94:Tryz.prog.underlying 94 = some (.slice 98):=by kernel_rfl
@[simp] theorem ty96:τ Tryz.prog 96 = some ⟨2,32,true,[.int .i64 0,.nil],.struct #[{ name := "Locations",type:=3,offset:=0,embedded:=false,tag := "",pkgPath := "",byteOffset:=0 },{ name := "Edges",type:=94,offset:=1,embedded:=false,tag := "",pkgPath := "",byteOffset:=8 }]⟩:=by kernel_rfl
@[simp] theorem un96:Tryz.prog.underlying 96 = some (.struct #[{ name := "Locations",type:=3,offset:=0,embedded:=false,tag := "",pkgPath := "",byteOffset:=0 },{ name := "Edges",type:=94,offset:=1,embedded:=false,tag := "",pkgPath := "",byteOffset:=8 }]):=by kernel_rfl
@[simp] theorem ty98:τ Tryz.prog 98 = some ⟨10,112,true,[.int .i64 0,.int .i64 0,.int .i64 0,.int .i64 0,.nil,.int .i64 0,.int .i64 0,.int .i64 0,.nil,.int .i64 0],.struct #[{ name := "From",type:=3,offset:=0,embedded:=false,tag := "",pkgPath := "",byteOffset:=0 },{ name := "To",type:=3,offset:=1,embedded:=false,tag := "",pkgPath := "",byteOffset:=8 },{ name := "Guard",type:=64,offset:=2,embedded:=false,tag := "",pkgPath := "",byteOffset:=16 },{ name := "Var",type:=3,offset:=5,embedded:=false,tag := "",pkgPath := "",byteOffset:=56 },{ name := "Value",type:=64,offset:=6,embedded:=false,tag := "",pkgPath := "",byteOffset:=64 },{ name := "Sync",type:=3,offset:=9,embedded:=false,tag := "",pkgPath := "",byteOffset:=104 }]⟩:=by kernel_rfl
@[simp] theorem un98:Tryz.prog.underlying 98 = some (.struct #[{ name := "From",type:=3,offset:=0,embedded:=false,tag := "",pkgPath := "",byteOffset:=0 },{ name := "To",type:=3,offset:=1,embedded:=false,tag := "",pkgPath := "",byteOffset:=8 },{ name := "Guard",type:=64,offset:=2,embedded:=false,tag := "",pkgPath := "",byteOffset:=16 },{ name := "Var",type:=3,offset:=5,embedded:=false,tag := "",pkgPath := "",byteOffset:=56 },{ name := "Value",type:=64,offset:=6,embedded:=false,tag := "",pkgPath := "",byteOffset:=64 },{ name := "Sync",type:=3,offset:=9,embedded:=false,tag := "",pkgPath := "",byteOffset:=104 }]):=by kernel_rfl
@[simp] theorem ty101:τ Tryz.prog 101 = some ⟨1,8,false,[.int .i64 0],.int .i64⟩:=by kernel_rfl
@[simp] theorem un101:Tryz.prog.underlying 101 = some (.int .i64):=by kernel_rfl
@[simp] theorem ty109:τ Tryz.prog 109 = some ⟨1,4,false,[.int .u32 0],.int .u32⟩:=by kernel_rfl
@[simp] theorem un109:Tryz.prog.underlying 109 = some (.int .u32):=by kernel_rfl
@[simp] theorem ty111:τ Tryz.prog 111 = some ⟨1,8,false,[.int .u64 0],.int .u64⟩:=by kernel_rfl
@[simp] theorem un111:Tryz.prog.underlying 111 = some (.int .u64):=by kernel_rfl
@[simp] theorem ty120:τ Tryz.prog 120 = some ⟨1,8,false,[.int .u64 0],.int .u64⟩:=by kernel_rfl
@[simp] theorem un120:Tryz.prog.underlying 120 = some (.int .u64):=by kernel_rfl
@[simp] theorem ty124:τ Tryz.prog 124 = some ⟨1,8,false,[.nilp],.pointer 3⟩:=by kernel_rfl
@[simp] theorem un124:Tryz.prog.underlying 124 = some (.pointer 3):=by kernel_rfl
@[simp] theorem ty132:τ Tryz.prog 132 = some ⟨1,8,false,[.nilp],.pointer 120⟩:=by kernel_rfl
@[simp] theorem un132:Tryz.prog.underlying 132 = some (.pointer 120):=by kernel_rfl
@[simp] theorem ty142:τ Tryz.prog 142 = some ⟨4,40,true,[.nilp,.nilp,.nilp,.str []],.struct #[{ name := "_interface",type:=17,offset:=0,embedded:=false,tag := "",pkgPath := "runtime",byteOffset:=0 },{ name := "concrete",type:=17,offset:=1,embedded:=false,tag := "",pkgPath := "runtime",byteOffset:=8 },{ name := "asserted",type:=17,offset:=2,embedded:=false,tag := "",pkgPath := "runtime",byteOffset:=16 },{ name := "missingMethod",type:=9,offset:=3,embedded:=false,tag := "",pkgPath := "runtime",byteOffset:=24 }]⟩:=by kernel_rfl
@[simp] theorem un142:Tryz.prog.underlying 142 = some (.struct #[{ name := "_interface",type:=17,offset:=0,embedded:=false,tag := "",pkgPath := "runtime",byteOffset:=0 },{ name := "concrete",type:=17,offset:=1,embedded:=false,tag := "",pkgPath := "runtime",byteOffset:=8 },{ name := "asserted",type:=17,offset:=2,embedded:=false,tag := "",pkgPath := "runtime",byteOffset:=16 },{ name := "missingMethod",type:=9,offset:=3,embedded:=false,tag := "",pkgPath := "runtime",byteOffset:=24 }]):=by kernel_rfl
@[simp] theorem ty147:τ Tryz.prog 147 = some ⟨1,1,false,[.int .u8 0],.int .u8⟩:=by kernel_rfl
@[simp] theorem un147:Tryz.prog.underlying 147 = some (.int .u8):=by kernel_rfl
@[simp] theorem ty148:τ Tryz.prog 148 = some ⟨1,1,false,[.int .u8 0],.int .u8⟩:=by kernel_rfl
@[simp] theorem un148:Tryz.prog.underlying 148 = some (.int .u8):=by kernel_rfl
@[simp] theorem ty150:τ Tryz.prog 150 = some ⟨1,8,false,[.nilp],.pointer 5⟩:=by kernel_rfl
@[simp] theorem un150:Tryz.prog.underlying 150 = some (.pointer 5):=by kernel_rfl
@[simp] theorem ty151:τ Tryz.prog 151 = some ⟨1,4,false,[.int .i32 0],.int .i32⟩:=by kernel_rfl
@[simp] theorem un151:Tryz.prog.underlying 151 = some (.int .i32):=by kernel_rfl
@[simp] theorem ty152:τ Tryz.prog 152 = some ⟨1,4,false,[.int .i32 0],.int .i32⟩:=by kernel_rfl
@[simp] theorem un152:Tryz.prog.underlying 152 = some (.int .i32):=by kernel_rfl
@[simp] theorem ty154:τ Tryz.prog 154 = some ⟨11,48,true,[.int .u64 0,.int .u64 0,.int .u32 0,.int .u8 0,.int .u8 0,.int .u8 0,.int .u8 0,.any,.nilp,.int .i32 0,.int .i32 0],.struct #[{ name := "Size_",type:=12,offset:=0,embedded:=false,tag := "",pkgPath := "",byteOffset:=0 },{ name := "PtrBytes",type:=12,offset:=1,embedded:=false,tag := "",pkgPath := "",byteOffset:=8 },{ name := "Hash",type:=109,offset:=2,embedded:=false,tag := "",pkgPath := "",byteOffset:=16 },{ name := "TFlag",type:=147,offset:=3,embedded:=false,tag := "",pkgPath := "",byteOffset:=20 },{ name := "Align_",type:=5,offset:=4,embedded:=false,tag := "",pkgPath := "",byteOffset:=21 },{ name := "FieldAlign_",type:=5,offset:=5,embedded:=false,tag := "",pkgPath := "",byteOffset:=22 },{ name := "Kind_",type:=148,offset:=6,embedded:=false,tag := "",pkgPath := "",byteOffset:=23 },{ name := "Equal",type:=149,offset:=7,embedded:=false,tag := "",pkgPath := "",byteOffset:=24 },{ name := "GCData",type:=150,offset:=8,embedded:=false,tag := "",pkgPath := "",byteOffset:=32 },{ name := "Str",type:=151,offset:=9,embedded:=false,tag := "",pkgPath := "",byteOffset:=40 },{ name := "PtrToThis",type:=152,offset:=10,embedded:=false,tag := "",pkgPath := "",byteOffset:=44 }]⟩:=by kernel_rfl
@[simp] theorem un154:Tryz.prog.underlying 154 = some (.struct #[{ name := "Size_",type:=12,offset:=0,embedded:=false,tag := "",pkgPath := "",byteOffset:=0 },{ name := "PtrBytes",type:=12,offset:=1,embedded:=false,tag := "",pkgPath := "",byteOffset:=8 },{ name := "Hash",type:=109,offset:=2,embedded:=false,tag := "",pkgPath := "",byteOffset:=16 },{ name := "TFlag",type:=147,offset:=3,embedded:=false,tag := "",pkgPath := "",byteOffset:=20 },{ name := "Align_",type:=5,offset:=4,embedded:=false,tag := "",pkgPath := "",byteOffset:=21 },{ name := "FieldAlign_",type:=5,offset:=5,embedded:=false,tag := "",pkgPath := "",byteOffset:=22 },{ name := "Kind_",type:=148,offset:=6,embedded:=false,tag := "",pkgPath := "",byteOffset:=23 },{ name := "Equal",type:=149,offset:=7,embedded:=false,tag := "",pkgPath := "",byteOffset:=24 },{ name := "GCData",type:=150,offset:=8,embedded:=false,tag := "",pkgPath := "",byteOffset:=32 },{ name := "Str",type:=151,offset:=9,embedded:=false,tag := "",pkgPath := "",byteOffset:=40 },{ name := "PtrToThis",type:=152,offset:=10,embedded:=false,tag := "",pkgPath := "",byteOffset:=44 }]):=by kernel_rfl
end Go.Proofs.YtmiimodggpjkmaaGreat.Vm
