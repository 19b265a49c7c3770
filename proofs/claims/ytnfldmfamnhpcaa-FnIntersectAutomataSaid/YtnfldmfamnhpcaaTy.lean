/-
  What the program's types are, for the abstract machine. No conditions.
-/
import Derived.Test.YtnfldmfamnhpcaaProg
import Derived.Test.YtnfldmfamnhpcaaVm15
namespace Go.Proofs.Ytnfldmfamnhpcaa.Vm
open Go
set_option maxRecDepth 100000
@[simp] theorem ty2:τ Try.prog 2 = some ⟨1,8,false,[.int .i64 0],.int .i64⟩:=by kernel_rfl
@[simp] theorem un2:Try.prog.underlying 2 = some (.int .i64):=by kernel_rfl
@[simp] theorem ty3:τ Try.prog 3 = some ⟨1,8,false,[.int .i64 0],.int .i64⟩:=by kernel_rfl
@[simp] theorem un3:Try.prog.underlying 3 = some (.int .i64):=by kernel_rfl
@[simp] theorem ty4:τ Try.prog 4 = some ⟨1,1,false,[.bool false],.bool⟩:=by kernel_rfl
@[simp] theorem un4:Try.prog.underlying 4 = some (.bool):=by kernel_rfl
@[simp] theorem ty5:τ Try.prog 5 = some ⟨1,1,false,[.int .u8 0],.int .u8⟩:=by kernel_rfl
@[simp] theorem un5:Try.prog.underlying 5 = some (.int .u8):=by kernel_rfl
@[simp] theorem ty6:τ Try.prog 6 = some ⟨1,1,false,[.int .u8 0],.int .u8⟩:=by kernel_rfl
@[simp] theorem un6:Try.prog.underlying 6 = some (.int .u8):=by kernel_rfl
@[simp] theorem ty7:τ Try.prog 7 = some ⟨4,24,true,[.int .i64 0,.int .i64 0,.bool false,.int .u8 0],.struct #[{ name := "x",type:=2,offset:=0,embedded:=false,tag := "",pkgPath := "runtime",byteOffset:=0 },{ name := "y",type:=3,offset:=1,embedded:=false,tag := "",pkgPath := "runtime",byteOffset:=8 },{ name := "signed",type:=4,offset:=2,embedded:=false,tag := "",pkgPath := "runtime",byteOffset:=16 },{ name := "code",type:=6,offset:=3,embedded:=false,tag := "",pkgPath := "runtime",byteOffset:=17 }]⟩:=by kernel_rfl
@[simp] theorem un7:Try.prog.underlying 7 = some (.struct #[{ name := "x",type:=2,offset:=0,embedded:=false,tag := "",pkgPath := "runtime",byteOffset:=0 },{ name := "y",type:=3,offset:=1,embedded:=false,tag := "",pkgPath := "runtime",byteOffset:=8 },{ name := "signed",type:=4,offset:=2,embedded:=false,tag := "",pkgPath := "runtime",byteOffset:=16 },{ name := "code",type:=6,offset:=3,embedded:=false,tag := "",pkgPath := "runtime",byteOffset:=17 }]):=by kernel_rfl
@[simp] theorem ty8:τ Try.prog 8 = some ⟨4,24,true,[.int .i64 0,.int .i64 0,.bool false,.int .u8 0],.struct #[{ name := "x",type:=2,offset:=0,embedded:=false,tag := "",pkgPath := "runtime",byteOffset:=0 },{ name := "y",type:=3,offset:=1,embedded:=false,tag := "",pkgPath := "runtime",byteOffset:=8 },{ name := "signed",type:=4,offset:=2,embedded:=false,tag := "",pkgPath := "runtime",byteOffset:=16 },{ name := "code",type:=6,offset:=3,embedded:=false,tag := "",pkgPath := "runtime",byteOffset:=17 }]⟩:=by kernel_rfl
@[simp] theorem un8:Try.prog.underlying 8 = some (.struct #[{ name := "x",type:=2,offset:=0,embedded:=false,tag := "",pkgPath := "runtime",byteOffset:=0 },{ name := "y",type:=3,offset:=1,embedded:=false,tag := "",pkgPath := "runtime",byteOffset:=8 },{ name := "signed",type:=4,offset:=2,embedded:=false,tag := "",pkgPath := "runtime",byteOffset:=16 },{ name := "code",type:=6,offset:=3,embedded:=false,tag := "",pkgPath := "runtime",byteOffset:=17 }]):=by kernel_rfl
@[simp] theorem ty9:τ Try.prog 9 = some ⟨1,16,false,[.str []],.string⟩:=by kernel_rfl
@[simp] theorem un9:Try.prog.underlying 9 = some (.string):=by kernel_rfl
@[simp] theorem ty10:τ Try.prog 10 = some ⟨1,16,false,[.str []],.string⟩:=by kernel_rfl
@[simp] theorem un10:Try.prog.underlying 10 = some (.string):=by kernel_rfl
@[simp] theorem ty11:τ Try.prog 11 = some ⟨1,16,false,[.str []],.string⟩:=by kernel_rfl
@[simp] theorem un11:Try.prog.underlying 11 = some (.string):=by kernel_rfl
@[simp] theorem ty12:τ Try.prog 12 = some ⟨1,8,false,[.int .u64 0],.int .u64⟩:=by kernel_rfl
@[simp] theorem un12:Try.prog.underlying 12 = some (.int .u64):=by kernel_rfl
@[simp] theorem ty13:τ Try.prog 13 = some ⟨2,24,true,[.str [],.int .u64 0],.struct #[{ name := "msg",type:=9,offset:=0,embedded:=false,tag := "",pkgPath := "runtime",byteOffset:=0 },{ name := "addr",type:=12,offset:=1,embedded:=false,tag := "",pkgPath := "runtime",byteOffset:=16 }]⟩:=by kernel_rfl
@[simp] theorem un13:Try.prog.underlying 13 = some (.struct #[{ name := "msg",type:=9,offset:=0,embedded:=false,tag := "",pkgPath := "runtime",byteOffset:=0 },{ name := "addr",type:=12,offset:=1,embedded:=false,tag := "",pkgPath := "runtime",byteOffset:=16 }]):=by kernel_rfl
@[simp] theorem ty14:τ Try.prog 14 = some ⟨2,24,true,[.str [],.int .u64 0],.struct #[{ name := "msg",type:=9,offset:=0,embedded:=false,tag := "",pkgPath := "runtime",byteOffset:=0 },{ name := "addr",type:=12,offset:=1,embedded:=false,tag := "",pkgPath := "runtime",byteOffset:=16 }]⟩:=by kernel_rfl
@[simp] theorem un14:Try.prog.underlying 14 = some (.struct #[{ name := "msg",type:=9,offset:=0,embedded:=false,tag := "",pkgPath := "runtime",byteOffset:=0 },{ name := "addr",type:=12,offset:=1,embedded:=false,tag := "",pkgPath := "runtime",byteOffset:=16 }]):=by kernel_rfl
@[simp] theorem ty15:τ Try.prog 15 = some ⟨1,8,false,[.nilp],.pointer 141⟩:=by kernel_rfl
@[simp] theorem un15:Try.prog.underlying 15 = some (.pointer 141):=by kernel_rfl
@[simp] theorem ty16:τ Try.prog 16 = some ⟨1,8,false,[.nilp],.pointer 144⟩:=by kernel_rfl
@[simp] theorem un16:Try.prog.underlying 16 = some (.pointer 144):=by kernel_rfl
@[simp] theorem ty17:τ Try.prog 17 = some ⟨1,8,false,[.nilp],.pointer 154⟩:=by kernel_rfl
@[simp] theorem un17:Try.prog.underlying 17 = some (.pointer 154):=by kernel_rfl
@[simp] theorem ty18:τ Try.prog 18 = some ⟨1,8,true,[.nilp],.struct #[{ name := "typ",type:=17,offset:=0,embedded:=false,tag := "",pkgPath := "internal/runtime/maps",byteOffset:=0 }]⟩:=by kernel_rfl
@[simp] theorem un18:Try.prog.underlying 18 = some (.struct #[{ name := "typ",type:=17,offset:=0,embedded:=false,tag := "",pkgPath := "internal/runtime/maps",byteOffset:=0 }]):=by kernel_rfl
@[simp] theorem ty19:τ Try.prog 19 = some ⟨1,8,true,[.nilp],.struct #[{ name := "typ",type:=17,offset:=0,embedded:=false,tag := "",pkgPath := "internal/runtime/maps",byteOffset:=0 }]⟩:=by kernel_rfl
@[simp] theorem un19:Try.prog.underlying 19 = some (.struct #[{ name := "typ",type:=17,offset:=0,embedded:=false,tag := "",pkgPath := "internal/runtime/maps",byteOffset:=0 }]):=by kernel_rfl
@[simp] theorem ty22:τ Try.prog 22 = some ⟨1,24,false,[.nil],.slice 3⟩:=by kernel_rfl
@[simp] theorem un22:Try.prog.underlying 22 = some (.slice 3):=by kernel_rfl
@[simp] theorem ty23:τ Try.prog 23 = some ⟨1,24,false,[.nil],.slice 4⟩:=by kernel_rfl
@[simp] theorem un23:Try.prog.underlying 23 = some (.slice 4):=by kernel_rfl
@[simp] theorem ty24:τ Try.prog 24 = some ⟨1,24,false,[.nil],.slice 83⟩:=by kernel_rfl
@[simp] theorem un24:Try.prog.underlying 24 = some (.slice 83):=by kernel_rfl
@[simp] theorem ty28:τ Try.prog 28 = some ⟨1,24,false,[.nil],.slice 53⟩:=by kernel_rfl
@[simp] theorem un28:Try.prog.underlying 28 = some (.slice 53):=by kernel_rfl
@[simp] theorem ty29:τ Try.prog 29 = some ⟨3,72,true,[.nil,.nil,.nil],.struct #[{ name := "Initial",type:=22,offset:=0,embedded:=false,tag := "",pkgPath := "",byteOffset:=0 },{ name := "Accepting",type:=23,offset:=1,embedded:=false,tag := "",pkgPath := "",byteOffset:=24 },{ name := "Edges",type:=28,offset:=2,embedded:=false,tag := "",pkgPath := "",byteOffset:=48 }]⟩:=by kernel_rfl
@[simp] theorem un29:Try.prog.underlying 29 = some (.struct #[{ name := "Initial",type:=22,offset:=0,embedded:=false,tag := "",pkgPath := "",byteOffset:=0 },{ name := "Accepting",type:=23,offset:=1,embedded:=false,tag := "",pkgPath := "",byteOffset:=24 },{ name := "Edges",type:=28,offset:=2,embedded:=false,tag := "",pkgPath := "",byteOffset:=48 }]):=by kernel_rfl
@[simp] theorem ty30:τ Try.prog 30 = some ⟨3,72,true,[.nil,.nil,.nil],.struct #[{ name := "Initial",type:=22,offset:=0,embedded:=false,tag := "",pkgPath := "",byteOffset:=0 },{ name := "Accepting",type:=23,offset:=1,embedded:=false,tag := "",pkgPath := "",byteOffset:=24 },{ name := "Edges",type:=28,offset:=2,embedded:=false,tag := "",pkgPath := "",byteOffset:=48 }]⟩:=by kernel_rfl
@[simp] theorem un30:Try.prog.underlying 30 = some (.struct #[{ name := "Initial",type:=22,offset:=0,embedded:=false,tag := "",pkgPath := "",byteOffset:=0 },{ name := "Accepting",type:=23,offset:=1,embedded:=false,tag := "",pkgPath := "",byteOffset:=24 },{ name := "Edges",type:=28,offset:=2,embedded:=false,tag := "",pkgPath := "",byteOffset:=48 }]):=by kernel_rfl
@[simp] theorem ty37:τ Try.prog 37 = some ⟨1,24,false,[.nil],.slice 5⟩:=by kernel_rfl
@[simp] theorem un37:Try.prog.underlying 37 = some (.slice 5):=by kernel_rfl
@[simp] theorem ty41:τ Try.prog 41 = some ⟨2,48,true,[.nil,.nil],.struct #[{ name := "Stem",type:=22,offset:=0,embedded:=false,tag := "",pkgPath := "",byteOffset:=0 },{ name := "Loop",type:=22,offset:=1,embedded:=false,tag := "",pkgPath := "",byteOffset:=24 }]⟩:=by kernel_rfl
@[simp] theorem un41:Try.prog.underlying 41 = some (.struct #[{ name := "Stem",type:=22,offset:=0,embedded:=false,tag := "",pkgPath := "",byteOffset:=0 },{ name := "Loop",type:=22,offset:=1,embedded:=false,tag := "",pkgPath := "",byteOffset:=24 }]):=by kernel_rfl
@[simp] theorem ty51:τ Try.prog 51 = some ⟨1,24,false,[.nil],.slice 22⟩:=by kernel_rfl
@[simp] theorem un51:Try.prog.underlying 51 = some (.slice 22):=by kernel_rfl
@[simp] theorem ty53:τ Try.prog 53 = some ⟨4,32,true,[.int .i64 0,.int .i64 0,.int .i64 0,.int .i64 0],.struct #[{ name := "From",type:=3,offset:=0,embedded:=false,tag := "",pkgPath := "",byteOffset:=0 },{ name := "Care",type:=3,offset:=1,embedded:=false,tag := "",pkgPath := "",byteOffset:=8 },{ name := "Value",type:=3,offset:=2,embedded:=false,tag := "",pkgPath := "",byteOffset:=16 },{ name := "To",type:=3,offset:=3,embedded:=false,tag := "",pkgPath := "",byteOffset:=24 }]⟩:=by kernel_rfl
@[simp] theorem un53:Try.prog.underlying 53 = some (.struct #[{ name := "From",type:=3,offset:=0,embedded:=false,tag := "",pkgPath := "",byteOffset:=0 },{ name := "Care",type:=3,offset:=1,embedded:=false,tag := "",pkgPath := "",byteOffset:=8 },{ name := "Value",type:=3,offset:=2,embedded:=false,tag := "",pkgPath := "",byteOffset:=16 },{ name := "To",type:=3,offset:=3,embedded:=false,tag := "",pkgPath := "",byteOffset:=24 }]):=by kernel_rfl
@[simp] theorem ty61:τ Try.prog 61 = some ⟨1,24,false,[.nil],.slice 63⟩:=by kernel_rfl
@[simp] theorem un61:Try.prog.underlying 61 = some (.slice 63):=by kernel_rfl
@[simp] theorem ty63:τ Try.prog 63 = some ⟨3,24,true,[.int .i64 0,.int .i64 0,.int .i64 0],.struct #[{ name := "a",type:=3,offset:=0,embedded:=false,tag := "",pkgPath := "loop.example/ltlcheck/impl",byteOffset:=0 },{ name := "b",type:=3,offset:=1,embedded:=false,tag := "",pkgPath := "loop.example/ltlcheck/impl",byteOffset:=8 },{ name := "phase",type:=3,offset:=2,embedded:=false,tag := "",pkgPath := "loop.example/ltlcheck/impl",byteOffset:=16 }]⟩:=by kernel_rfl
@[simp] theorem un63:Try.prog.underlying 63 = some (.struct #[{ name := "a",type:=3,offset:=0,embedded:=false,tag := "",pkgPath := "loop.example/ltlcheck/impl",byteOffset:=0 },{ name := "b",type:=3,offset:=1,embedded:=false,tag := "",pkgPath := "loop.example/ltlcheck/impl",byteOffset:=8 },{ name := "phase",type:=3,offset:=2,embedded:=false,tag := "",pkgPath := "loop.example/ltlcheck/impl",byteOffset:=16 }]):=by kernel_rfl
@[simp] theorem ty64:τ Try.prog 64 = some ⟨1,24,false,[.nil],.slice 66⟩:=by kernel_rfl
@[simp] theorem un64:Try.prog.underlying 64 = some (.slice 66):=by kernel_rfl
@[simp] theorem ty65:τ Try.prog 65 = some ⟨5,40,true,[.int .i64 0,.int .i64 0,.int .i64 0,.int .i64 0,.int .i64 0],.struct #[{ name := "care",type:=3,offset:=0,embedded:=false,tag := "",pkgPath := "loop.example/ltlcheck/impl",byteOffset:=0 },{ name := "value",type:=3,offset:=1,embedded:=false,tag := "",pkgPath := "loop.example/ltlcheck/impl",byteOffset:=8 },{ name := "to",type:=63,offset:=2,embedded:=false,tag := "",pkgPath := "loop.example/ltlcheck/impl",byteOffset:=16 }]⟩:=by kernel_rfl
@[simp] theorem un65:Try.prog.underlying 65 = some (.struct #[{ name := "care",type:=3,offset:=0,embedded:=false,tag := "",pkgPath := "loop.example/ltlcheck/impl",byteOffset:=0 },{ name := "value",type:=3,offset:=1,embedded:=false,tag := "",pkgPath := "loop.example/ltlcheck/impl",byteOffset:=8 },{ name := "to",type:=63,offset:=2,embedded:=false,tag := "",pkgPath := "loop.example/ltlcheck/impl",byteOffset:=16 }]):=by kernel_rfl
@[simp] theorem ty66:τ Try.prog 66 = some ⟨5,40,true,[.int .i64 0,.int .i64 0,.int .i64 0,.int .i64 0,.int .i64 0],.struct #[{ name := "care",type:=3,offset:=0,embedded:=false,tag := "",pkgPath := "loop.example/ltlcheck/impl",byteOffset:=0 },{ name := "value",type:=3,offset:=1,embedded:=false,tag := "",pkgPath := "loop.example/ltlcheck/impl",byteOffset:=8 },{ name := "to",type:=63,offset:=2,embedded:=false,tag := "",pkgPath := "loop.example/ltlcheck/impl",byteOffset:=16 }]⟩:=by kernel_rfl
@[simp] theorem un66:Try.prog.underlying 66 = some (.struct #[{ name := "care",type:=3,offset:=0,embedded:=false,tag := "",pkgPath := "loop.example/ltlcheck/impl",byteOffset:=0 },{ name := "value",type:=3,offset:=1,embedded:=false,tag := "",pkgPath := "loop.example/ltlcheck/impl",byteOffset:=8 },{ name := "to",type:=63,offset:=2,embedded:=false,tag := "",pkgPath := "loop.example/ltlcheck/impl",byteOffset:=16 }]):=by kernel_rfl
@[simp] theorem ty74:τ Try.prog 74 = some ⟨1,8,false,[.nilp],.pointer 93⟩:=by kernel_rfl
@[simp] theorem un74:Try.prog.underlying 74 = some (.pointer 93):=by kernel_rfl
@[simp] theorem ty83:τ Try.prog 83 = some ⟨4,32,true,[.int .i64 0,.int .i64 0,.int .i64 0,.int .i64 0],.struct #[{ name := "From",type:=3,offset:=0,embedded:=false,tag := "",pkgPath := "",byteOffset:=0 },{ name := "Care",type:=3,offset:=1,embedded:=false,tag := "",pkgPath := "",byteOffset:=8 },{ name := "Value",type:=3,offset:=2,embedded:=false,tag := "",pkgPath := "",byteOffset:=16 },{ name := "To",type:=3,offset:=3,embedded:=false,tag := "",pkgPath := "",byteOffset:=24 }]⟩:=by kernel_rfl
@[simp] theorem un83:Try.prog.underlying 83 = some (.struct #[{ name := "From",type:=3,offset:=0,embedded:=false,tag := "",pkgPath := "",byteOffset:=0 },{ name := "Care",type:=3,offset:=1,embedded:=false,tag := "",pkgPath := "",byteOffset:=8 },{ name := "Value",type:=3,offset:=2,embedded:=false,tag := "",pkgPath := "",byteOffset:=16 },{ name := "To",type:=3,offset:=3,embedded:=false,tag := "",pkgPath := "",byteOffset:=24 }]):=by kernel_rfl
@[simp] theorem ty93:τ Try.prog 93 = some ⟨2,32,true,[.nil,.int .i64 0],.struct #[{ name := "b",type:=37,offset:=0,embedded:=false,tag := "",pkgPath := "loop.example/ltlcheck/spec",byteOffset:=0 },{ name := "p",type:=3,offset:=1,embedded:=false,tag := "",pkgPath := "loop.example/ltlcheck/spec",byteOffset:=24 }]⟩:=by kernel_rfl
@[simp] theorem un93:Try.prog.underlying 93 = some (.struct #[{ name := "b",type:=37,offset:=0,embedded:=false,tag := "",pkgPath := "loop.example/ltlcheck/spec",byteOffset:=0 },{ name := "p",type:=3,offset:=1,embedded:=false,tag := "",pkgPath := "loop.example/ltlcheck/spec",byteOffset:=24 }]):=by kernel_rfl
@[simp] theorem ty97:τ Try.prog 97 = some ⟨1,24,false,[.nil],.slice 99⟩:=by kernel_rfl
@[simp] theorem un97:Try.prog.underlying 97 = some (.slice 99):=by kernel_rfl
@[simp] theorem ty99:τ Try.prog 99 = some ⟨3,40,true,[.int .i64 0,.int .i64 0,.nil],.struct #[{ name := "Kind",type:=3,offset:=0,embedded:=false,tag := "",pkgPath := "",byteOffset:=0 },{ name := "Atom",type:=3,offset:=1,embedded:=false,tag := "",pkgPath := "",byteOffset:=8 },{ name := "Kids",type:=97,offset:=2,embedded:=false,tag := "",pkgPath := "",byteOffset:=16 }]⟩:=by kernel_rfl
@[simp] theorem un99:Try.prog.underlying 99 = some (.struct #[{ name := "Kind",type:=3,offset:=0,embedded:=false,tag := "",pkgPath := "",byteOffset:=0 },{ name := "Atom",type:=3,offset:=1,embedded:=false,tag := "",pkgPath := "",byteOffset:=8 },{ name := "Kids",type:=97,offset:=2,embedded:=false,tag := "",pkgPath := "",byteOffset:=16 }]):=by kernel_rfl
@[simp] theorem ty113:τ Try.prog 113 = some ⟨1,8,false,[.int .u64 0],.int .u64⟩:=by kernel_rfl
@[simp] theorem un113:Try.prog.underlying 113 = some (.int .u64):=by kernel_rfl
@[simp] theorem ty141:τ Try.prog 141 = some ⟨4,40,true,[.nilp,.nilp,.nilp,.str []],.struct #[{ name := "_interface",type:=17,offset:=0,embedded:=false,tag := "",pkgPath := "runtime",byteOffset:=0 },{ name := "concrete",type:=17,offset:=1,embedded:=false,tag := "",pkgPath := "runtime",byteOffset:=8 },{ name := "asserted",type:=17,offset:=2,embedded:=false,tag := "",pkgPath := "runtime",byteOffset:=16 },{ name := "missingMethod",type:=9,offset:=3,embedded:=false,tag := "",pkgPath := "runtime",byteOffset:=24 }]⟩:=by kernel_rfl
@[simp] theorem un141:Try.prog.underlying 141 = some (.struct #[{ name := "_interface",type:=17,offset:=0,embedded:=false,tag := "",pkgPath := "runtime",byteOffset:=0 },{ name := "concrete",type:=17,offset:=1,embedded:=false,tag := "",pkgPath := "runtime",byteOffset:=8 },{ name := "asserted",type:=17,offset:=2,embedded:=false,tag := "",pkgPath := "runtime",byteOffset:=16 },{ name := "missingMethod",type:=9,offset:=3,embedded:=false,tag := "",pkgPath := "runtime",byteOffset:=24 }]):=by kernel_rfl
@[simp] theorem ty144:τ Try.prog 144 = some ⟨0,0,true,[],.struct #[{ name := "_",type:=142,offset:=0,embedded:=false,tag := "",pkgPath := "runtime",byteOffset:=0 }]⟩:=by kernel_rfl
@[simp] theorem un144:Try.prog.underlying 144 = some (.struct #[{ name := "_",type:=142,offset:=0,embedded:=false,tag := "",pkgPath := "runtime",byteOffset:=0 }]):=by kernel_rfl
@[simp] theorem ty146:τ Try.prog 146 = some ⟨1,4,false,[.int .u32 0],.int .u32⟩:=by kernel_rfl
@[simp] theorem un146:Try.prog.underlying 146 = some (.int .u32):=by kernel_rfl
@[simp] theorem ty147:τ Try.prog 147 = some ⟨1,1,false,[.int .u8 0],.int .u8⟩:=by kernel_rfl
@[simp] theorem un147:Try.prog.underlying 147 = some (.int .u8):=by kernel_rfl
@[simp] theorem ty148:τ Try.prog 148 = some ⟨1,1,false,[.int .u8 0],.int .u8⟩:=by kernel_rfl
@[simp] theorem un148:Try.prog.underlying 148 = some (.int .u8):=by kernel_rfl
@[simp] theorem ty150:τ Try.prog 150 = some ⟨1,8,false,[.nilp],.pointer 5⟩:=by kernel_rfl
@[simp] theorem un150:Try.prog.underlying 150 = some (.pointer 5):=by kernel_rfl
@[simp] theorem ty151:τ Try.prog 151 = some ⟨1,4,false,[.int .i32 0],.int .i32⟩:=by kernel_rfl
@[simp] theorem un151:Try.prog.underlying 151 = some (.int .i32):=by kernel_rfl
@[simp] theorem ty152:τ Try.prog 152 = some ⟨1,4,false,[.int .i32 0],.int .i32⟩:=by kernel_rfl
@[simp] theorem un152:Try.prog.underlying 152 = some (.int .i32):=by kernel_rfl
@[simp] theorem ty154:τ Try.prog 154 = some ⟨11,48,true,[.int .u64 0,.int .u64 0,.int .u32 0,.int .u8 0,.int .u8 0,.int .u8 0,.int .u8 0,.any,.nilp,.int .i32 0,.int .i32 0],.struct #[{ name := "Size_",type:=12,offset:=0,embedded:=false,tag := "",pkgPath := "",byteOffset:=0 },{ name := "PtrBytes",type:=12,offset:=1,embedded:=false,tag := "",pkgPath := "",byteOffset:=8 },{ name := "Hash",type:=146,offset:=2,embedded:=false,tag := "",pkgPath := "",byteOffset:=16 },{ name := "TFlag",type:=147,offset:=3,embedded:=false,tag := "",pkgPath := "",byteOffset:=20 },{ name := "Align_",type:=5,offset:=4,embedded:=false,tag := "",pkgPath := "",byteOffset:=21 },{ name := "FieldAlign_",type:=5,offset:=5,embedded:=false,tag := "",pkgPath := "",byteOffset:=22 },{ name := "Kind_",type:=148,offset:=6,embedded:=false,tag := "",pkgPath := "",byteOffset:=23 },{ name := "Equal",type:=149,offset:=7,embedded:=false,tag := "",pkgPath := "",byteOffset:=24 },{ name := "GCData",type:=150,offset:=8,embedded:=false,tag := "",pkgPath := "",byteOffset:=32 },{ name := "Str",type:=151,offset:=9,embedded:=false,tag := "",pkgPath := "",byteOffset:=40 },{ name := "PtrToThis",type:=152,offset:=10,embedded:=false,tag := "",pkgPath := "",byteOffset:=44 }]⟩:=by kernel_rfl
@[simp] theorem un154:Try.prog.underlying 154 = some (.struct #[{ name := "Size_",type:=12,offset:=0,embedded:=false,tag := "",pkgPath := "",byteOffset:=0 },{ name := "PtrBytes",type:=12,offset:=1,embedded:=false,tag := "",pkgPath := "",byteOffset:=8 },{ name := "Hash",type:=146,offset:=2,embedded:=false,tag := "",pkgPath := "",byteOffset:=16 },{ name := "TFlag",type:=147,offset:=3,embedded:=false,tag := "",pkgPath := "",byteOffset:=20 },{ name := "Align_",type:=5,offset:=4,embedded:=false,tag := "",pkgPath := "",byteOffset:=21 },{ name := "FieldAlign_",type:=5,offset:=5,embedded:=false,tag := "",pkgPath := "",byteOffset:=22 },{ name := "Kind_",type:=148,offset:=6,embedded:=false,tag := "",pkgPath := "",byteOffset:=23 },{ name := "Equal",type:=149,offset:=7,embedded:=false,tag := "",pkgPath := "",byteOffset:=24 },{ name := "GCData",type:=150,offset:=8,embedded:=false,tag := "",pkgPath := "",byteOffset:=32 },{ name := "Str",type:=151,offset:=9,embedded:=false,tag := "",pkgPath := "",byteOffset:=40 },{ name := "PtrToThis",type:=152,offset:=10,embedded:=false,tag := "",pkgPath := "",byteOffset:=44 }]):=by kernel_rfl
end Go.Proofs.Ytnfldmfamnhpcaa.Vm
