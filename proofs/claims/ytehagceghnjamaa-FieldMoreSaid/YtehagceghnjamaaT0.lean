/- Facts on the types of this seat's program. -/
import Derived.Test.YtehagceghnjamaaMB
import Derived.Test.YtehagceghnjamaaProg
namespace Go.Proofs.Ytehagceghnjamaa.Ab
open Go Go.RowKit Go.Proofs

theorem mixed : Try.prog.follows .mixedOrders = true := by kernel_rfl

theorem bin_agg {t : TypeId} {x y : Operand} {cs ds : List AV} {us vs : Array Value} {r : Bool} {fs : Array Field} (hu : Try.prog.underlying t = some (.struct fs)) (h1 : (AV.agg cs).flat = some (.agg us)) (h2 : (AV.agg ds).flat = some (.agg vs)) (h : aggEq Try.prog t (.agg us) (.agg vs) = some r) :
    binA Try.prog .eql t x y (.agg cs) (.agg ds) = some (.val (.bool r)) ∧ binA Try.prog .neq t x y (.agg cs) (.agg ds) = some (.val (.bool (!r))) := by
  simp [binA, nilKind, nilOf, hu, h1, h2, h]

theorem inf1 : infoA Try.prog 1 = some (some (.nilFunc), 1, 8) := by kernel_rfl
theorem inf2 : infoA Try.prog 2 = some (some (.int .i64 0), 1, 8) := by kernel_rfl
theorem inf3 : infoA Try.prog 3 = some (some (.int .i64 0), 1, 8) := by kernel_rfl
theorem inf4 : infoA Try.prog 4 = some (some (.bool false), 1, 1) := by kernel_rfl
theorem inf5 : infoA Try.prog 5 = some (some (.int .u8 0), 1, 1) := by kernel_rfl
theorem inf6 : infoA Try.prog 6 = some (some (.int .u8 0), 1, 1) := by kernel_rfl
theorem inf7 : infoA Try.prog 7 = some (some (.agg #[.int .i64 0, .int .i64 0, .bool false, .int .u8 0]), 4, 24) := by kernel_rfl
theorem inf8 : infoA Try.prog 8 = some (some (.agg #[.int .i64 0, .int .i64 0, .bool false, .int .u8 0]), 4, 24) := by kernel_rfl
theorem inf9 : infoA Try.prog 9 = some (some (.string ⟨#[]⟩), 1, 16) := by kernel_rfl
theorem inf10 : infoA Try.prog 10 = some (some (.string ⟨#[]⟩), 1, 16) := by kernel_rfl
theorem inf11 : infoA Try.prog 11 = some (some (.string ⟨#[]⟩), 1, 16) := by kernel_rfl
theorem inf12 : infoA Try.prog 12 = some (some (.int .u64 0), 1, 8) := by kernel_rfl
theorem inf13 : infoA Try.prog 13 = some (some (.agg #[.string ⟨#[]⟩, .int .u64 0]), 2, 24) := by kernel_rfl
theorem inf14 : infoA Try.prog 14 = some (some (.agg #[.string ⟨#[]⟩, .int .u64 0]), 2, 24) := by kernel_rfl
theorem inf15 : infoA Try.prog 15 = some (some (.pointer none), 1, 8) := by kernel_rfl
theorem inf16 : infoA Try.prog 16 = some (some (.pointer none), 1, 8) := by kernel_rfl
theorem inf17 : infoA Try.prog 17 = some (some (.pointer none), 1, 8) := by kernel_rfl
theorem inf18 : infoA Try.prog 18 = some (some (.agg #[.pointer none]), 1, 8) := by kernel_rfl
theorem inf19 : infoA Try.prog 19 = some (some (.agg #[.pointer none]), 1, 8) := by kernel_rfl
theorem inf21 : infoA Try.prog 21 = some (some (.int .i32 0), 1, 4) := by kernel_rfl
theorem inf22 : infoA Try.prog 22 = some (some (.agg #[.int .i64 0, .int .i64 0]), 2, 16) := by kernel_rfl
theorem inf23 : infoA Try.prog 23 = some (some (.agg #[.int .i64 0, .int .i64 0]), 2, 16) := by kernel_rfl
theorem inf24 : infoA Try.prog 24 = some (some (.agg #[.int .i64 0, .int .i64 0, .int .i64 0, .int .i64 0, .int .i64 0, .int .i64 0, .int .i64 0]), 7, 56) := by kernel_rfl
theorem inf25 : infoA Try.prog 25 = some (some (.agg #[.int .i64 0, .int .i64 0, .int .i64 0, .int .i64 0, .int .i64 0, .int .i64 0, .int .i64 0]), 7, 56) := by kernel_rfl
theorem inf26 : infoA Try.prog 26 = some (some (.slice none 0 0), 1, 24) := by kernel_rfl
theorem inf27 : infoA Try.prog 27 = some (some (.nilFunc), 1, 8) := by kernel_rfl
theorem inf28 : infoA Try.prog 28 = some (some (.int .i64 0), 1, 8) := by kernel_rfl
theorem inf29 : infoA Try.prog 29 = some (some (.nilFunc), 1, 8) := by kernel_rfl
theorem inf30 : infoA Try.prog 30 = some (some (.nilFunc), 1, 8) := by kernel_rfl
theorem inf32 : infoA Try.prog 32 = some (some (.nilFunc), 1, 8) := by kernel_rfl
theorem inf33 : infoA Try.prog 33 = some (some (.slice none 0 0), 1, 24) := by kernel_rfl
theorem inf35 : infoA Try.prog 35 = some (some (.nilFunc), 1, 8) := by kernel_rfl
theorem inf36 : infoA Try.prog 36 = some (some (.agg #[.int .i64 0, .int .i64 0]), 2, 16) := by kernel_rfl
theorem inf37 : infoA Try.prog 37 = some (some (.agg #[.int .i64 0, .int .i64 0]), 2, 16) := by kernel_rfl
theorem inf38 : infoA Try.prog 38 = some (some (.agg #[.int .i64 0, .int .i64 0, .int .i64 0, .int .i64 0]), 4, 32) := by kernel_rfl
theorem inf39 : infoA Try.prog 39 = some (some (.agg #[.int .i64 0, .int .i64 0, .int .i64 0, .int .i64 0]), 4, 32) := by kernel_rfl
theorem inf40 : infoA Try.prog 40 = some (some (.int .u16 0), 1, 2) := by kernel_rfl
theorem inf41 : infoA Try.prog 41 = some (some (.int .u32 0), 1, 4) := by kernel_rfl
theorem inf42 : infoA Try.prog 42 = some (some (.nilFunc), 1, 8) := by kernel_rfl
theorem inf43 : infoA Try.prog 43 = some (some (.nilFunc), 1, 8) := by kernel_rfl
theorem inf45 : infoA Try.prog 45 = some (some (.nilFunc), 1, 8) := by kernel_rfl
theorem inf47 : infoA Try.prog 47 = some (some (.nilFunc), 1, 8) := by kernel_rfl
theorem inf48 : infoA Try.prog 48 = some (some (.nilFunc), 1, 8) := by kernel_rfl
theorem inf49 : infoA Try.prog 49 = some (some (.slice none 0 0), 1, 24) := by kernel_rfl
theorem inf51 : infoA Try.prog 51 = some (some (.nilFunc), 1, 8) := by kernel_rfl
theorem inf52 : infoA Try.prog 52 = some (some (.nilFunc), 1, 8) := by kernel_rfl
theorem inf53 : infoA Try.prog 53 = some (some (.nilFunc), 1, 8) := by kernel_rfl
theorem inf54 : infoA Try.prog 54 = some (some (.nilFunc), 1, 8) := by kernel_rfl
theorem inf55 : infoA Try.prog 55 = some (some (.nilFunc), 1, 8) := by kernel_rfl
theorem inf56 : infoA Try.prog 56 = some (some (.nilFunc), 1, 8) := by kernel_rfl
theorem inf57 : infoA Try.prog 57 = some (some (.nilFunc), 1, 8) := by kernel_rfl
theorem inf58 : infoA Try.prog 58 = some (some (.slice none 0 0), 1, 24) := by kernel_rfl
theorem inf60 : infoA Try.prog 60 = some (some (.nilFunc), 1, 8) := by kernel_rfl
theorem inf61 : infoA Try.prog 61 = some (some (.nilFunc), 1, 8) := by kernel_rfl
theorem inf62 : infoA Try.prog 62 = some (some (.nilFunc), 1, 8) := by kernel_rfl
theorem inf63 : infoA Try.prog 63 = some (some (.agg #[.slice none 0 0, .int .i64 0, .int .i64 0, .slice none 0 0]), 4, 64) := by kernel_rfl
theorem inf64 : infoA Try.prog 64 = some (some (.agg #[.slice none 0 0, .int .i64 0, .int .i64 0, .slice none 0 0]), 4, 64) := by kernel_rfl
theorem inf65 : infoA Try.prog 65 = some (some (.int .i64 0), 1, 8) := by kernel_rfl
theorem inf67 : infoA Try.prog 67 = some (some (.nilFunc), 1, 8) := by kernel_rfl
theorem inf68 : infoA Try.prog 68 = some (some (.nilFunc), 1, 8) := by kernel_rfl
theorem inf69 : infoA Try.prog 69 = some (some (.slice none 0 0), 1, 24) := by kernel_rfl
theorem inf70 : infoA Try.prog 70 = some (some (.nilFunc), 1, 8) := by kernel_rfl
theorem inf71 : infoA Try.prog 71 = some (some (.nilFunc), 1, 8) := by kernel_rfl
theorem inf72 : infoA Try.prog 72 = some (some (.nilFunc), 1, 8) := by kernel_rfl
theorem inf73 : infoA Try.prog 73 = some (some (.nilFunc), 1, 8) := by kernel_rfl
theorem inf74 : infoA Try.prog 74 = some (some (.nilFunc), 1, 8) := by kernel_rfl
theorem inf75 : infoA Try.prog 75 = some (some (.nilFunc), 1, 8) := by kernel_rfl
theorem inf76 : infoA Try.prog 76 = some (some (.nilFunc), 1, 8) := by kernel_rfl
theorem inf77 : infoA Try.prog 77 = some (some (.nilFunc), 1, 8) := by kernel_rfl
theorem inf78 : infoA Try.prog 78 = some (some (.nilFunc), 1, 8) := by kernel_rfl
theorem inf79 : infoA Try.prog 79 = some (some (.nilFunc), 1, 8) := by kernel_rfl
theorem inf81 : infoA Try.prog 81 = some (some (.nilFunc), 1, 8) := by kernel_rfl
theorem inf82 : infoA Try.prog 82 = some (some (.pointer none), 1, 8) := by kernel_rfl
theorem inf84 : infoA Try.prog 84 = some (some (.nilFunc), 1, 8) := by kernel_rfl
theorem inf86 : infoA Try.prog 86 = some (some (.nilFunc), 1, 8) := by kernel_rfl
theorem inf87 : infoA Try.prog 87 = some (some (.agg #[.int .i64 0, .int .i64 0, .int .i64 0, .int .i64 0, .int .i64 0, .int .i64 0, .int .i64 0, .slice none 0 0, .slice none 0 0]), 9, 104) := by kernel_rfl
theorem inf88 : infoA Try.prog 88 = some (some (.agg #[.int .i64 0, .int .i64 0, .int .i64 0, .int .i64 0, .int .i64 0, .int .i64 0, .int .i64 0, .slice none 0 0, .slice none 0 0]), 9, 104) := by kernel_rfl
theorem inf89 : infoA Try.prog 89 = some (some (.nilFunc), 1, 8) := by kernel_rfl
theorem inf90 : infoA Try.prog 90 = some (some (.nilFunc), 1, 8) := by kernel_rfl
theorem inf91 : infoA Try.prog 91 = some (some (.nilFunc), 1, 8) := by kernel_rfl
theorem inf92 : infoA Try.prog 92 = some (some (.nilFunc), 1, 8) := by kernel_rfl
theorem inf93 : infoA Try.prog 93 = some (some (.nilFunc), 1, 8) := by kernel_rfl
theorem inf94 : infoA Try.prog 94 = some (some (.nilFunc), 1, 8) := by kernel_rfl
theorem inf95 : infoA Try.prog 95 = some (some (.nilFunc), 1, 8) := by kernel_rfl
theorem inf96 : infoA Try.prog 96 = some (some (.nilFunc), 1, 8) := by kernel_rfl
theorem inf97 : infoA Try.prog 97 = some (some (.nilFunc), 1, 8) := by kernel_rfl
theorem inf98 : infoA Try.prog 98 = some (some (.nilFunc), 1, 8) := by kernel_rfl
theorem inf99 : infoA Try.prog 99 = some (some (.nilFunc), 1, 8) := by kernel_rfl
theorem inf100 : infoA Try.prog 100 = some (some (.nilFunc), 1, 8) := by kernel_rfl
theorem inf101 : infoA Try.prog 101 = some (some (.nilFunc), 1, 8) := by kernel_rfl
theorem inf102 : infoA Try.prog 102 = some (some (.nilFunc), 1, 8) := by kernel_rfl
theorem inf103 : infoA Try.prog 103 = some (some (.nilFunc), 1, 8) := by kernel_rfl
theorem inf104 : infoA Try.prog 104 = some (some (.nilFunc), 1, 8) := by kernel_rfl
theorem inf105 : infoA Try.prog 105 = some (some (.nilFunc), 1, 8) := by kernel_rfl
theorem inf106 : infoA Try.prog 106 = some (some (.nilFunc), 1, 8) := by kernel_rfl
theorem inf107 : infoA Try.prog 107 = some (some (.nilFunc), 1, 8) := by kernel_rfl
theorem inf108 : infoA Try.prog 108 = some (some (.nilFunc), 1, 8) := by kernel_rfl
theorem inf109 : infoA Try.prog 109 = some (some (.nilFunc), 1, 8) := by kernel_rfl
theorem inf110 : infoA Try.prog 110 = some (some (.agg #[.int .i64 0, .int .i64 0]), 2, 16) := by kernel_rfl
theorem inf111 : infoA Try.prog 111 = some (some (.agg #[.int .i64 0, .int .i64 0, .int .i64 0, .int .i64 0, .int .i64 0, .slice none 0 0, .int .i64 0]), 7, 72) := by kernel_rfl
theorem inf112 : infoA Try.prog 112 = some (some (.agg #[.int .i64 0, .int .i64 0, .int .i64 0, .int .i64 0, .int .i64 0, .slice none 0 0, .int .i64 0]), 7, 72) := by kernel_rfl
theorem inf113 : infoA Try.prog 113 = some (some (.nilFunc), 1, 8) := by kernel_rfl
theorem inf115 : infoA Try.prog 115 = some (some (.pointer none), 1, 8) := by kernel_rfl
theorem inf116 : infoA Try.prog 116 = some (some (.slice none 0 0), 1, 24) := by kernel_rfl
theorem inf119 : infoA Try.prog 119 = some (some (.nilFunc), 1, 8) := by kernel_rfl
theorem inf120 : infoA Try.prog 120 = some (some (.agg #[.nilFunc, .nilFunc, .nilFunc, .nilFunc, .nilFunc, .nilFunc, .nilFunc]), 7, 56) := by kernel_rfl
theorem inf121 : infoA Try.prog 121 = some (some (.nilFunc), 1, 8) := by kernel_rfl
theorem inf122 : infoA Try.prog 122 = some (some (.nilFunc), 1, 8) := by kernel_rfl
theorem inf123 : infoA Try.prog 123 = some (some (.nilFunc), 1, 8) := by kernel_rfl
theorem inf124 : infoA Try.prog 124 = some (some (.nilFunc), 1, 8) := by kernel_rfl
theorem inf125 : infoA Try.prog 125 = some (some (.nilFunc), 1, 8) := by kernel_rfl
theorem inf126 : infoA Try.prog 126 = some (some (.nilFunc), 1, 8) := by kernel_rfl
theorem inf127 : infoA Try.prog 127 = some (some (.slice none 0 0), 1, 24) := by kernel_rfl
theorem inf128 : infoA Try.prog 128 = some (some (.nilFunc), 1, 8) := by kernel_rfl
theorem inf129 : infoA Try.prog 129 = some (some (.nilFunc), 1, 8) := by kernel_rfl
theorem inf130 : infoA Try.prog 130 = some (some (.nilFunc), 1, 8) := by kernel_rfl
theorem inf131 : infoA Try.prog 131 = some (some (.nilFunc), 1, 8) := by kernel_rfl
theorem inf132 : infoA Try.prog 132 = some (some (.nilFunc), 1, 8) := by kernel_rfl
theorem inf133 : infoA Try.prog 133 = some (some (.nilFunc), 1, 8) := by kernel_rfl
theorem inf136 : infoA Try.prog 136 = some (some (.agg #[]), 0, 0) := by kernel_rfl
theorem inf137 : infoA Try.prog 137 = some (some (.agg #[]), 0, 0) := by kernel_rfl
theorem inf138 : infoA Try.prog 138 = some (some (.agg #[]), 0, 0) := by kernel_rfl
theorem inf139 : infoA Try.prog 139 = some (some (.int .u8 0), 1, 1) := by kernel_rfl
theorem inf140 : infoA Try.prog 140 = some (some (.int .u8 0), 1, 1) := by kernel_rfl
theorem inf141 : infoA Try.prog 141 = some (some (.nilFunc), 1, 8) := by kernel_rfl
theorem inf142 : infoA Try.prog 142 = some (some (.pointer none), 1, 8) := by kernel_rfl
theorem inf143 : infoA Try.prog 143 = some (some (.int .i32 0), 1, 4) := by kernel_rfl
theorem inf144 : infoA Try.prog 144 = some (some (.int .i32 0), 1, 4) := by kernel_rfl
theorem inf147 : infoA Try.prog 147 = some (some (.pointer none), 1, 8) := by kernel_rfl
@[go_sem] theorem sz1 : sizeA Try.prog 1 = some 1 := size_of inf1
@[go_sem] theorem zr1 : zeroA Try.prog 1 = some [.val (.nilFunc)] := zero_of inf1
@[go_sem] theorem ld1 (cs : List AV) (off : Nat) : loadA Try.prog 1 cs off = cs[off]? := load_one Try.underlying1 rfl inf1 cs off
attribute [go_sem] Try.underlying1
@[go_sem] theorem sz2 : sizeA Try.prog 2 = some 1 := size_of inf2
@[go_sem] theorem zr2 : zeroA Try.prog 2 = some [.val (.int .i64 0)] := zero_of inf2
@[go_sem] theorem ld2 (cs : List AV) (off : Nat) : loadA Try.prog 2 cs off = cs[off]? := load_one Try.underlying2 rfl inf2 cs off
attribute [go_sem] Try.underlying2
@[go_sem] theorem sz3 : sizeA Try.prog 3 = some 1 := size_of inf3
@[go_sem] theorem zr3 : zeroA Try.prog 3 = some [.val (.int .i64 0)] := zero_of inf3
@[go_sem] theorem ld3 (cs : List AV) (off : Nat) : loadA Try.prog 3 cs off = cs[off]? := load_one Try.underlying3 rfl inf3 cs off
attribute [go_sem] Try.underlying3
@[go_sem] theorem sz4 : sizeA Try.prog 4 = some 1 := size_of inf4
@[go_sem] theorem zr4 : zeroA Try.prog 4 = some [.val (.bool false)] := zero_of inf4
@[go_sem] theorem ld4 (cs : List AV) (off : Nat) : loadA Try.prog 4 cs off = cs[off]? := load_one Try.underlying4 rfl inf4 cs off
attribute [go_sem] Try.underlying4
@[go_sem] theorem sz5 : sizeA Try.prog 5 = some 1 := size_of inf5
@[go_sem] theorem zr5 : zeroA Try.prog 5 = some [.val (.int .u8 0)] := zero_of inf5
@[go_sem] theorem ld5 (cs : List AV) (off : Nat) : loadA Try.prog 5 cs off = cs[off]? := load_one Try.underlying5 rfl inf5 cs off
attribute [go_sem] Try.underlying5
@[go_sem] theorem sz6 : sizeA Try.prog 6 = some 1 := size_of inf6
@[go_sem] theorem zr6 : zeroA Try.prog 6 = some [.val (.int .u8 0)] := zero_of inf6
@[go_sem] theorem ld6 (cs : List AV) (off : Nat) : loadA Try.prog 6 cs off = cs[off]? := load_one Try.underlying6 rfl inf6 cs off
attribute [go_sem] Try.underlying6
@[go_sem] theorem sz7 : sizeA Try.prog 7 = some 4 := size_of inf7
@[go_sem] theorem zr7 : zeroA Try.prog 7 = some [.val (.int .i64 0), .val (.int .i64 0), .val (.bool false), .val (.int .u8 0)] := zero_of inf7
@[go_sem] theorem ld7 (cs : List AV) (off : Nat) : loadA Try.prog 7 cs off = if off + 4 ≤ cs.length then some (.agg ((cs.drop off).take 4)) else none := load_agg Try.underlying7 rfl inf7 cs off
@[go_sem] theorem sz8 : sizeA Try.prog 8 = some 4 := size_of inf8
@[go_sem] theorem zr8 : zeroA Try.prog 8 = some [.val (.int .i64 0), .val (.int .i64 0), .val (.bool false), .val (.int .u8 0)] := zero_of inf8
@[go_sem] theorem ld8 (cs : List AV) (off : Nat) : loadA Try.prog 8 cs off = if off + 4 ≤ cs.length then some (.agg ((cs.drop off).take 4)) else none := load_agg Try.underlying8 rfl inf8 cs off
@[go_sem] theorem sz9 : sizeA Try.prog 9 = some 1 := size_of inf9
@[go_sem] theorem zr9 : zeroA Try.prog 9 = some [.val (.string ⟨#[]⟩)] := zero_of inf9
@[go_sem] theorem ld9 (cs : List AV) (off : Nat) : loadA Try.prog 9 cs off = cs[off]? := load_one Try.underlying9 rfl inf9 cs off
attribute [go_sem] Try.underlying9
@[go_sem] theorem sz10 : sizeA Try.prog 10 = some 1 := size_of inf10
@[go_sem] theorem zr10 : zeroA Try.prog 10 = some [.val (.string ⟨#[]⟩)] := zero_of inf10
@[go_sem] theorem ld10 (cs : List AV) (off : Nat) : loadA Try.prog 10 cs off = cs[off]? := load_one Try.underlying10 rfl inf10 cs off
attribute [go_sem] Try.underlying10
@[go_sem] theorem sz11 : sizeA Try.prog 11 = some 1 := size_of inf11
@[go_sem] theorem zr11 : zeroA Try.prog 11 = some [.val (.string ⟨#[]⟩)] := zero_of inf11
@[go_sem] theorem ld11 (cs : List AV) (off : Nat) : loadA Try.prog 11 cs off = cs[off]? := load_one Try.underlying11 rfl inf11 cs off
attribute [go_sem] Try.underlying11
@[go_sem] theorem sz12 : sizeA Try.prog 12 = some 1 := size_of inf12
@[go_sem] theorem zr12 : zeroA Try.prog 12 = some [.val (.int .u64 0)] := zero_of inf12
@[go_sem] theorem ld12 (cs : List AV) (off : Nat) : loadA Try.prog 12 cs off = cs[off]? := load_one Try.underlying12 rfl inf12 cs off
attribute [go_sem] Try.underlying12
@[go_sem] theorem sz13 : sizeA Try.prog 13 = some 2 := size_of inf13
@[go_sem] theorem zr13 : zeroA Try.prog 13 = some [.val (.string ⟨#[]⟩), .val (.int .u64 0)] := zero_of inf13
@[go_sem] theorem ld13 (cs : List AV) (off : Nat) : loadA Try.prog 13 cs off = if off + 2 ≤ cs.length then some (.agg ((cs.drop off).take 2)) else none := load_agg Try.underlying13 rfl inf13 cs off
@[go_sem] theorem sz14 : sizeA Try.prog 14 = some 2 := size_of inf14
@[go_sem] theorem zr14 : zeroA Try.prog 14 = some [.val (.string ⟨#[]⟩), .val (.int .u64 0)] := zero_of inf14
@[go_sem] theorem ld14 (cs : List AV) (off : Nat) : loadA Try.prog 14 cs off = if off + 2 ≤ cs.length then some (.agg ((cs.drop off).take 2)) else none := load_agg Try.underlying14 rfl inf14 cs off
@[go_sem] theorem sz15 : sizeA Try.prog 15 = some 1 := size_of inf15
@[go_sem] theorem zr15 : zeroA Try.prog 15 = some [.val (.pointer none)] := zero_of inf15
@[go_sem] theorem ld15 (cs : List AV) (off : Nat) : loadA Try.prog 15 cs off = cs[off]? := load_one Try.underlying15 rfl inf15 cs off
attribute [go_sem] Try.underlying15
@[go_sem] theorem sz16 : sizeA Try.prog 16 = some 1 := size_of inf16
@[go_sem] theorem zr16 : zeroA Try.prog 16 = some [.val (.pointer none)] := zero_of inf16
@[go_sem] theorem ld16 (cs : List AV) (off : Nat) : loadA Try.prog 16 cs off = cs[off]? := load_one Try.underlying16 rfl inf16 cs off
attribute [go_sem] Try.underlying16
@[go_sem] theorem sz17 : sizeA Try.prog 17 = some 1 := size_of inf17
@[go_sem] theorem zr17 : zeroA Try.prog 17 = some [.val (.pointer none)] := zero_of inf17
@[go_sem] theorem ld17 (cs : List AV) (off : Nat) : loadA Try.prog 17 cs off = cs[off]? := load_one Try.underlying17 rfl inf17 cs off
attribute [go_sem] Try.underlying17
@[go_sem] theorem sz18 : sizeA Try.prog 18 = some 1 := size_of inf18
@[go_sem] theorem zr18 : zeroA Try.prog 18 = some [.val (.pointer none)] := zero_of inf18
@[go_sem] theorem ld18 (cs : List AV) (off : Nat) : loadA Try.prog 18 cs off = if off + 1 ≤ cs.length then some (.agg ((cs.drop off).take 1)) else none := load_agg Try.underlying18 rfl inf18 cs off
@[go_sem] theorem sz19 : sizeA Try.prog 19 = some 1 := size_of inf19
@[go_sem] theorem zr19 : zeroA Try.prog 19 = some [.val (.pointer none)] := zero_of inf19
@[go_sem] theorem ld19 (cs : List AV) (off : Nat) : loadA Try.prog 19 cs off = if off + 1 ≤ cs.length then some (.agg ((cs.drop off).take 1)) else none := load_agg Try.underlying19 rfl inf19 cs off
@[go_sem] theorem sz21 : sizeA Try.prog 21 = some 1 := size_of inf21
@[go_sem] theorem zr21 : zeroA Try.prog 21 = some [.val (.int .i32 0)] := zero_of inf21
@[go_sem] theorem ld21 (cs : List AV) (off : Nat) : loadA Try.prog 21 cs off = cs[off]? := load_one Try.underlying21 rfl inf21 cs off
attribute [go_sem] Try.underlying21
@[go_sem] theorem sz22 : sizeA Try.prog 22 = some 2 := size_of inf22
@[go_sem] theorem zr22 : zeroA Try.prog 22 = some [.val (.int .i64 0), .val (.int .i64 0)] := zero_of inf22
@[go_sem] theorem ld22 (cs : List AV) (off : Nat) : loadA Try.prog 22 cs off = if off + 2 ≤ cs.length then some (.agg ((cs.drop off).take 2)) else none := load_agg Try.underlying22 rfl inf22 cs off
@[go_sem] theorem sz23 : sizeA Try.prog 23 = some 2 := size_of inf23
@[go_sem] theorem zr23 : zeroA Try.prog 23 = some [.val (.int .i64 0), .val (.int .i64 0)] := zero_of inf23
@[go_sem] theorem ld23 (cs : List AV) (off : Nat) : loadA Try.prog 23 cs off = if off + 2 ≤ cs.length then some (.agg ((cs.drop off).take 2)) else none := load_agg Try.underlying23 rfl inf23 cs off
@[go_sem] theorem sz24 : sizeA Try.prog 24 = some 7 := size_of inf24
@[go_sem] theorem zr24 : zeroA Try.prog 24 = some [.val (.int .i64 0), .val (.int .i64 0), .val (.int .i64 0), .val (.int .i64 0), .val (.int .i64 0), .val (.int .i64 0), .val (.int .i64 0)] := zero_of inf24
@[go_sem] theorem ld24 (cs : List AV) (off : Nat) : loadA Try.prog 24 cs off = if off + 7 ≤ cs.length then some (.agg ((cs.drop off).take 7)) else none := load_agg Try.underlying24 rfl inf24 cs off
@[go_sem] theorem sz25 : sizeA Try.prog 25 = some 7 := size_of inf25
@[go_sem] theorem zr25 : zeroA Try.prog 25 = some [.val (.int .i64 0), .val (.int .i64 0), .val (.int .i64 0), .val (.int .i64 0), .val (.int .i64 0), .val (.int .i64 0), .val (.int .i64 0)] := zero_of inf25
@[go_sem] theorem ld25 (cs : List AV) (off : Nat) : loadA Try.prog 25 cs off = if off + 7 ≤ cs.length then some (.agg ((cs.drop off).take 7)) else none := load_agg Try.underlying25 rfl inf25 cs off
@[go_sem] theorem sz26 : sizeA Try.prog 26 = some 1 := size_of inf26
@[go_sem] theorem zr26 : zeroA Try.prog 26 = some [.val (.slice none 0 0)] := zero_of inf26
@[go_sem] theorem ld26 (cs : List AV) (off : Nat) : loadA Try.prog 26 cs off = cs[off]? := load_one Try.underlying26 rfl inf26 cs off
attribute [go_sem] Try.underlying26
@[go_sem] theorem sz27 : sizeA Try.prog 27 = some 1 := size_of inf27
@[go_sem] theorem zr27 : zeroA Try.prog 27 = some [.val (.nilFunc)] := zero_of inf27
@[go_sem] theorem ld27 (cs : List AV) (off : Nat) : loadA Try.prog 27 cs off = cs[off]? := load_one Try.underlying27 rfl inf27 cs off
attribute [go_sem] Try.underlying27
@[go_sem] theorem sz28 : sizeA Try.prog 28 = some 1 := size_of inf28
@[go_sem] theorem zr28 : zeroA Try.prog 28 = some [.val (.int .i64 0)] := zero_of inf28
@[go_sem] theorem ld28 (cs : List AV) (off : Nat) : loadA Try.prog 28 cs off = cs[off]? := load_one Try.underlying28 rfl inf28 cs off
attribute [go_sem] Try.underlying28
@[go_sem] theorem sz29 : sizeA Try.prog 29 = some 1 := size_of inf29
@[go_sem] theorem zr29 : zeroA Try.prog 29 = some [.val (.nilFunc)] := zero_of inf29
@[go_sem] theorem ld29 (cs : List AV) (off : Nat) : loadA Try.prog 29 cs off = cs[off]? := load_one Try.underlying29 rfl inf29 cs off
attribute [go_sem] Try.underlying29
@[go_sem] theorem sz30 : sizeA Try.prog 30 = some 1 := size_of inf30
@[go_sem] theorem zr30 : zeroA Try.prog 30 = some [.val (.nilFunc)] := zero_of inf30
@[go_sem] theorem ld30 (cs : List AV) (off : Nat) : loadA Try.prog 30 cs off = cs[off]? := load_one Try.underlying30 rfl inf30 cs off
attribute [go_sem] Try.underlying30
@[go_sem] theorem sz32 : sizeA Try.prog 32 = some 1 := size_of inf32
@[go_sem] theorem zr32 : zeroA Try.prog 32 = some [.val (.nilFunc)] := zero_of inf32
@[go_sem] theorem ld32 (cs : List AV) (off : Nat) : loadA Try.prog 32 cs off = cs[off]? := load_one Try.underlying32 rfl inf32 cs off
attribute [go_sem] Try.underlying32
@[go_sem] theorem sz33 : sizeA Try.prog 33 = some 1 := size_of inf33
@[go_sem] theorem zr33 : zeroA Try.prog 33 = some [.val (.slice none 0 0)] := zero_of inf33
@[go_sem] theorem ld33 (cs : List AV) (off : Nat) : loadA Try.prog 33 cs off = cs[off]? := load_one Try.underlying33 rfl inf33 cs off
attribute [go_sem] Try.underlying33
@[go_sem] theorem sz35 : sizeA Try.prog 35 = some 1 := size_of inf35
@[go_sem] theorem zr35 : zeroA Try.prog 35 = some [.val (.nilFunc)] := zero_of inf35
@[go_sem] theorem ld35 (cs : List AV) (off : Nat) : loadA Try.prog 35 cs off = cs[off]? := load_one Try.underlying35 rfl inf35 cs off
attribute [go_sem] Try.underlying35
@[go_sem] theorem sz36 : sizeA Try.prog 36 = some 2 := size_of inf36
@[go_sem] theorem zr36 : zeroA Try.prog 36 = some [.val (.int .i64 0), .val (.int .i64 0)] := zero_of inf36
@[go_sem] theorem ld36 (cs : List AV) (off : Nat) : loadA Try.prog 36 cs off = if off + 2 ≤ cs.length then some (.agg ((cs.drop off).take 2)) else none := load_agg Try.underlying36 rfl inf36 cs off
@[go_sem] theorem sz37 : sizeA Try.prog 37 = some 2 := size_of inf37
@[go_sem] theorem zr37 : zeroA Try.prog 37 = some [.val (.int .i64 0), .val (.int .i64 0)] := zero_of inf37
@[go_sem] theorem ld37 (cs : List AV) (off : Nat) : loadA Try.prog 37 cs off = if off + 2 ≤ cs.length then some (.agg ((cs.drop off).take 2)) else none := load_agg Try.underlying37 rfl inf37 cs off
@[go_sem] theorem sz38 : sizeA Try.prog 38 = some 4 := size_of inf38
@[go_sem] theorem zr38 : zeroA Try.prog 38 = some [.val (.int .i64 0), .val (.int .i64 0), .val (.int .i64 0), .val (.int .i64 0)] := zero_of inf38
@[go_sem] theorem ld38 (cs : List AV) (off : Nat) : loadA Try.prog 38 cs off = if off + 4 ≤ cs.length then some (.agg ((cs.drop off).take 4)) else none := load_agg Try.underlying38 rfl inf38 cs off
@[go_sem] theorem sz39 : sizeA Try.prog 39 = some 4 := size_of inf39
@[go_sem] theorem zr39 : zeroA Try.prog 39 = some [.val (.int .i64 0), .val (.int .i64 0), .val (.int .i64 0), .val (.int .i64 0)] := zero_of inf39
@[go_sem] theorem ld39 (cs : List AV) (off : Nat) : loadA Try.prog 39 cs off = if off + 4 ≤ cs.length then some (.agg ((cs.drop off).take 4)) else none := load_agg Try.underlying39 rfl inf39 cs off
@[go_sem] theorem sz40 : sizeA Try.prog 40 = some 1 := size_of inf40
@[go_sem] theorem zr40 : zeroA Try.prog 40 = some [.val (.int .u16 0)] := zero_of inf40
@[go_sem] theorem ld40 (cs : List AV) (off : Nat) : loadA Try.prog 40 cs off = cs[off]? := load_one Try.underlying40 rfl inf40 cs off
attribute [go_sem] Try.underlying40
@[go_sem] theorem sz41 : sizeA Try.prog 41 = some 1 := size_of inf41
@[go_sem] theorem zr41 : zeroA Try.prog 41 = some [.val (.int .u32 0)] := zero_of inf41
@[go_sem] theorem ld41 (cs : List AV) (off : Nat) : loadA Try.prog 41 cs off = cs[off]? := load_one Try.underlying41 rfl inf41 cs off
attribute [go_sem] Try.underlying41
@[go_sem] theorem sz42 : sizeA Try.prog 42 = some 1 := size_of inf42
@[go_sem] theorem zr42 : zeroA Try.prog 42 = some [.val (.nilFunc)] := zero_of inf42
@[go_sem] theorem ld42 (cs : List AV) (off : Nat) : loadA Try.prog 42 cs off = cs[off]? := load_one Try.underlying42 rfl inf42 cs off
attribute [go_sem] Try.underlying42
@[go_sem] theorem sz43 : sizeA Try.prog 43 = some 1 := size_of inf43
@[go_sem] theorem zr43 : zeroA Try.prog 43 = some [.val (.nilFunc)] := zero_of inf43
@[go_sem] theorem ld43 (cs : List AV) (off : Nat) : loadA Try.prog 43 cs off = cs[off]? := load_one Try.underlying43 rfl inf43 cs off
attribute [go_sem] Try.underlying43
@[go_sem] theorem sz45 : sizeA Try.prog 45 = some 1 := size_of inf45
@[go_sem] theorem zr45 : zeroA Try.prog 45 = some [.val (.nilFunc)] := zero_of inf45
@[go_sem] theorem ld45 (cs : List AV) (off : Nat) : loadA Try.prog 45 cs off = cs[off]? := load_one Try.underlying45 rfl inf45 cs off
attribute [go_sem] Try.underlying45
@[go_sem] theorem sz47 : sizeA Try.prog 47 = some 1 := size_of inf47
@[go_sem] theorem zr47 : zeroA Try.prog 47 = some [.val (.nilFunc)] := zero_of inf47
@[go_sem] theorem ld47 (cs : List AV) (off : Nat) : loadA Try.prog 47 cs off = cs[off]? := load_one Try.underlying47 rfl inf47 cs off
attribute [go_sem] Try.underlying47
@[go_sem] theorem sz48 : sizeA Try.prog 48 = some 1 := size_of inf48
@[go_sem] theorem zr48 : zeroA Try.prog 48 = some [.val (.nilFunc)] := zero_of inf48
@[go_sem] theorem ld48 (cs : List AV) (off : Nat) : loadA Try.prog 48 cs off = cs[off]? := load_one Try.underlying48 rfl inf48 cs off
attribute [go_sem] Try.underlying48
@[go_sem] theorem sz49 : sizeA Try.prog 49 = some 1 := size_of inf49
@[go_sem] theorem zr49 : zeroA Try.prog 49 = some [.val (.slice none 0 0)] := zero_of inf49
@[go_sem] theorem ld49 (cs : List AV) (off : Nat) : loadA Try.prog 49 cs off = cs[off]? := load_one Try.underlying49 rfl inf49 cs off
attribute [go_sem] Try.underlying49
@[go_sem] theorem sz51 : sizeA Try.prog 51 = some 1 := size_of inf51
@[go_sem] theorem zr51 : zeroA Try.prog 51 = some [.val (.nilFunc)] := zero_of inf51
@[go_sem] theorem ld51 (cs : List AV) (off : Nat) : loadA Try.prog 51 cs off = cs[off]? := load_one Try.underlying51 rfl inf51 cs off
attribute [go_sem] Try.underlying51
@[go_sem] theorem sz52 : sizeA Try.prog 52 = some 1 := size_of inf52
@[go_sem] theorem zr52 : zeroA Try.prog 52 = some [.val (.nilFunc)] := zero_of inf52
@[go_sem] theorem ld52 (cs : List AV) (off : Nat) : loadA Try.prog 52 cs off = cs[off]? := load_one Try.underlying52 rfl inf52 cs off
attribute [go_sem] Try.underlying52
@[go_sem] theorem sz53 : sizeA Try.prog 53 = some 1 := size_of inf53
@[go_sem] theorem zr53 : zeroA Try.prog 53 = some [.val (.nilFunc)] := zero_of inf53
@[go_sem] theorem ld53 (cs : List AV) (off : Nat) : loadA Try.prog 53 cs off = cs[off]? := load_one Try.underlying53 rfl inf53 cs off
attribute [go_sem] Try.underlying53
@[go_sem] theorem sz54 : sizeA Try.prog 54 = some 1 := size_of inf54
@[go_sem] theorem zr54 : zeroA Try.prog 54 = some [.val (.nilFunc)] := zero_of inf54
@[go_sem] theorem ld54 (cs : List AV) (off : Nat) : loadA Try.prog 54 cs off = cs[off]? := load_one Try.underlying54 rfl inf54 cs off
attribute [go_sem] Try.underlying54
@[go_sem] theorem sz55 : sizeA Try.prog 55 = some 1 := size_of inf55
@[go_sem] theorem zr55 : zeroA Try.prog 55 = some [.val (.nilFunc)] := zero_of inf55
@[go_sem] theorem ld55 (cs : List AV) (off : Nat) : loadA Try.prog 55 cs off = cs[off]? := load_one Try.underlying55 rfl inf55 cs off
attribute [go_sem] Try.underlying55
@[go_sem] theorem sz56 : sizeA Try.prog 56 = some 1 := size_of inf56
@[go_sem] theorem zr56 : zeroA Try.prog 56 = some [.val (.nilFunc)] := zero_of inf56
@[go_sem] theorem ld56 (cs : List AV) (off : Nat) : loadA Try.prog 56 cs off = cs[off]? := load_one Try.underlying56 rfl inf56 cs off
attribute [go_sem] Try.underlying56
@[go_sem] theorem sz57 : sizeA Try.prog 57 = some 1 := size_of inf57
@[go_sem] theorem zr57 : zeroA Try.prog 57 = some [.val (.nilFunc)] := zero_of inf57
@[go_sem] theorem ld57 (cs : List AV) (off : Nat) : loadA Try.prog 57 cs off = cs[off]? := load_one Try.underlying57 rfl inf57 cs off
attribute [go_sem] Try.underlying57
@[go_sem] theorem sz58 : sizeA Try.prog 58 = some 1 := size_of inf58
@[go_sem] theorem zr58 : zeroA Try.prog 58 = some [.val (.slice none 0 0)] := zero_of inf58
@[go_sem] theorem ld58 (cs : List AV) (off : Nat) : loadA Try.prog 58 cs off = cs[off]? := load_one Try.underlying58 rfl inf58 cs off
attribute [go_sem] Try.underlying58
@[go_sem] theorem sz60 : sizeA Try.prog 60 = some 1 := size_of inf60
@[go_sem] theorem zr60 : zeroA Try.prog 60 = some [.val (.nilFunc)] := zero_of inf60
@[go_sem] theorem ld60 (cs : List AV) (off : Nat) : loadA Try.prog 60 cs off = cs[off]? := load_one Try.underlying60 rfl inf60 cs off
attribute [go_sem] Try.underlying60
@[go_sem] theorem sz61 : sizeA Try.prog 61 = some 1 := size_of inf61
@[go_sem] theorem zr61 : zeroA Try.prog 61 = some [.val (.nilFunc)] := zero_of inf61
@[go_sem] theorem ld61 (cs : List AV) (off : Nat) : loadA Try.prog 61 cs off = cs[off]? := load_one Try.underlying61 rfl inf61 cs off
attribute [go_sem] Try.underlying61
@[go_sem] theorem sz62 : sizeA Try.prog 62 = some 1 := size_of inf62
@[go_sem] theorem zr62 : zeroA Try.prog 62 = some [.val (.nilFunc)] := zero_of inf62
@[go_sem] theorem ld62 (cs : List AV) (off : Nat) : loadA Try.prog 62 cs off = cs[off]? := load_one Try.underlying62 rfl inf62 cs off
attribute [go_sem] Try.underlying62
@[go_sem] theorem sz63 : sizeA Try.prog 63 = some 4 := size_of inf63
@[go_sem] theorem zr63 : zeroA Try.prog 63 = some [.val (.slice none 0 0), .val (.int .i64 0), .val (.int .i64 0), .val (.slice none 0 0)] := zero_of inf63
@[go_sem] theorem ld63 (cs : List AV) (off : Nat) : loadA Try.prog 63 cs off = if off + 4 ≤ cs.length then some (.agg ((cs.drop off).take 4)) else none := load_agg Try.underlying63 rfl inf63 cs off
@[go_sem] theorem sz64 : sizeA Try.prog 64 = some 4 := size_of inf64
@[go_sem] theorem zr64 : zeroA Try.prog 64 = some [.val (.slice none 0 0), .val (.int .i64 0), .val (.int .i64 0), .val (.slice none 0 0)] := zero_of inf64
@[go_sem] theorem ld64 (cs : List AV) (off : Nat) : loadA Try.prog 64 cs off = if off + 4 ≤ cs.length then some (.agg ((cs.drop off).take 4)) else none := load_agg Try.underlying64 rfl inf64 cs off
@[go_sem] theorem sz65 : sizeA Try.prog 65 = some 1 := size_of inf65
@[go_sem] theorem zr65 : zeroA Try.prog 65 = some [.val (.int .i64 0)] := zero_of inf65
@[go_sem] theorem ld65 (cs : List AV) (off : Nat) : loadA Try.prog 65 cs off = cs[off]? := load_one Try.underlying65 rfl inf65 cs off
attribute [go_sem] Try.underlying65
@[go_sem] theorem sz67 : sizeA Try.prog 67 = some 1 := size_of inf67
@[go_sem] theorem zr67 : zeroA Try.prog 67 = some [.val (.nilFunc)] := zero_of inf67
@[go_sem] theorem ld67 (cs : List AV) (off : Nat) : loadA Try.prog 67 cs off = cs[off]? := load_one Try.underlying67 rfl inf67 cs off
attribute [go_sem] Try.underlying67
@[go_sem] theorem sz68 : sizeA Try.prog 68 = some 1 := size_of inf68
@[go_sem] theorem zr68 : zeroA Try.prog 68 = some [.val (.nilFunc)] := zero_of inf68
@[go_sem] theorem ld68 (cs : List AV) (off : Nat) : loadA Try.prog 68 cs off = cs[off]? := load_one Try.underlying68 rfl inf68 cs off
attribute [go_sem] Try.underlying68
@[go_sem] theorem sz69 : sizeA Try.prog 69 = some 1 := size_of inf69
@[go_sem] theorem zr69 : zeroA Try.prog 69 = some [.val (.slice none 0 0)] := zero_of inf69
@[go_sem] theorem ld69 (cs : List AV) (off : Nat) : loadA Try.prog 69 cs off = cs[off]? := load_one Try.underlying69 rfl inf69 cs off
attribute [go_sem] Try.underlying69
@[go_sem] theorem sz70 : sizeA Try.prog 70 = some 1 := size_of inf70
@[go_sem] theorem zr70 : zeroA Try.prog 70 = some [.val (.nilFunc)] := zero_of inf70
@[go_sem] theorem ld70 (cs : List AV) (off : Nat) : loadA Try.prog 70 cs off = cs[off]? := load_one Try.underlying70 rfl inf70 cs off
attribute [go_sem] Try.underlying70
@[go_sem] theorem sz71 : sizeA Try.prog 71 = some 1 := size_of inf71
@[go_sem] theorem zr71 : zeroA Try.prog 71 = some [.val (.nilFunc)] := zero_of inf71
@[go_sem] theorem ld71 (cs : List AV) (off : Nat) : loadA Try.prog 71 cs off = cs[off]? := load_one Try.underlying71 rfl inf71 cs off
attribute [go_sem] Try.underlying71
@[go_sem] theorem sz72 : sizeA Try.prog 72 = some 1 := size_of inf72
@[go_sem] theorem zr72 : zeroA Try.prog 72 = some [.val (.nilFunc)] := zero_of inf72
@[go_sem] theorem ld72 (cs : List AV) (off : Nat) : loadA Try.prog 72 cs off = cs[off]? := load_one Try.underlying72 rfl inf72 cs off
attribute [go_sem] Try.underlying72
@[go_sem] theorem sz73 : sizeA Try.prog 73 = some 1 := size_of inf73
@[go_sem] theorem zr73 : zeroA Try.prog 73 = some [.val (.nilFunc)] := zero_of inf73
@[go_sem] theorem ld73 (cs : List AV) (off : Nat) : loadA Try.prog 73 cs off = cs[off]? := load_one Try.underlying73 rfl inf73 cs off
attribute [go_sem] Try.underlying73
@[go_sem] theorem sz74 : sizeA Try.prog 74 = some 1 := size_of inf74
@[go_sem] theorem zr74 : zeroA Try.prog 74 = some [.val (.nilFunc)] := zero_of inf74
@[go_sem] theorem ld74 (cs : List AV) (off : Nat) : loadA Try.prog 74 cs off = cs[off]? := load_one Try.underlying74 rfl inf74 cs off
attribute [go_sem] Try.underlying74
@[go_sem] theorem sz75 : sizeA Try.prog 75 = some 1 := size_of inf75
@[go_sem] theorem zr75 : zeroA Try.prog 75 = some [.val (.nilFunc)] := zero_of inf75
@[go_sem] theorem ld75 (cs : List AV) (off : Nat) : loadA Try.prog 75 cs off = cs[off]? := load_one Try.underlying75 rfl inf75 cs off
attribute [go_sem] Try.underlying75
@[go_sem] theorem sz76 : sizeA Try.prog 76 = some 1 := size_of inf76
@[go_sem] theorem zr76 : zeroA Try.prog 76 = some [.val (.nilFunc)] := zero_of inf76
@[go_sem] theorem ld76 (cs : List AV) (off : Nat) : loadA Try.prog 76 cs off = cs[off]? := load_one Try.underlying76 rfl inf76 cs off
attribute [go_sem] Try.underlying76
@[go_sem] theorem sz77 : sizeA Try.prog 77 = some 1 := size_of inf77
@[go_sem] theorem zr77 : zeroA Try.prog 77 = some [.val (.nilFunc)] := zero_of inf77
@[go_sem] theorem ld77 (cs : List AV) (off : Nat) : loadA Try.prog 77 cs off = cs[off]? := load_one Try.underlying77 rfl inf77 cs off
attribute [go_sem] Try.underlying77
@[go_sem] theorem sz78 : sizeA Try.prog 78 = some 1 := size_of inf78
@[go_sem] theorem zr78 : zeroA Try.prog 78 = some [.val (.nilFunc)] := zero_of inf78
@[go_sem] theorem ld78 (cs : List AV) (off : Nat) : loadA Try.prog 78 cs off = cs[off]? := load_one Try.underlying78 rfl inf78 cs off
attribute [go_sem] Try.underlying78
@[go_sem] theorem sz79 : sizeA Try.prog 79 = some 1 := size_of inf79
@[go_sem] theorem zr79 : zeroA Try.prog 79 = some [.val (.nilFunc)] := zero_of inf79
@[go_sem] theorem ld79 (cs : List AV) (off : Nat) : loadA Try.prog 79 cs off = cs[off]? := load_one Try.underlying79 rfl inf79 cs off
attribute [go_sem] Try.underlying79
@[go_sem] theorem sz81 : sizeA Try.prog 81 = some 1 := size_of inf81
@[go_sem] theorem zr81 : zeroA Try.prog 81 = some [.val (.nilFunc)] := zero_of inf81
@[go_sem] theorem ld81 (cs : List AV) (off : Nat) : loadA Try.prog 81 cs off = cs[off]? := load_one Try.underlying81 rfl inf81 cs off
attribute [go_sem] Try.underlying81
@[go_sem] theorem sz82 : sizeA Try.prog 82 = some 1 := size_of inf82
@[go_sem] theorem zr82 : zeroA Try.prog 82 = some [.val (.pointer none)] := zero_of inf82
@[go_sem] theorem ld82 (cs : List AV) (off : Nat) : loadA Try.prog 82 cs off = cs[off]? := load_one Try.underlying82 rfl inf82 cs off
attribute [go_sem] Try.underlying82
@[go_sem] theorem sz84 : sizeA Try.prog 84 = some 1 := size_of inf84
@[go_sem] theorem zr84 : zeroA Try.prog 84 = some [.val (.nilFunc)] := zero_of inf84
@[go_sem] theorem ld84 (cs : List AV) (off : Nat) : loadA Try.prog 84 cs off = cs[off]? := load_one Try.underlying84 rfl inf84 cs off
attribute [go_sem] Try.underlying84
@[go_sem] theorem sz86 : sizeA Try.prog 86 = some 1 := size_of inf86
@[go_sem] theorem zr86 : zeroA Try.prog 86 = some [.val (.nilFunc)] := zero_of inf86
@[go_sem] theorem ld86 (cs : List AV) (off : Nat) : loadA Try.prog 86 cs off = cs[off]? := load_one Try.underlying86 rfl inf86 cs off
attribute [go_sem] Try.underlying86
@[go_sem] theorem sz87 : sizeA Try.prog 87 = some 9 := size_of inf87
@[go_sem] theorem zr87 : zeroA Try.prog 87 = some [.val (.int .i64 0), .val (.int .i64 0), .val (.int .i64 0), .val (.int .i64 0), .val (.int .i64 0), .val (.int .i64 0), .val (.int .i64 0), .val (.slice none 0 0), .val (.slice none 0 0)] := zero_of inf87
@[go_sem] theorem ld87 (cs : List AV) (off : Nat) : loadA Try.prog 87 cs off = if off + 9 ≤ cs.length then some (.agg ((cs.drop off).take 9)) else none := load_agg Try.underlying87 rfl inf87 cs off
@[go_sem] theorem sz88 : sizeA Try.prog 88 = some 9 := size_of inf88
@[go_sem] theorem zr88 : zeroA Try.prog 88 = some [.val (.int .i64 0), .val (.int .i64 0), .val (.int .i64 0), .val (.int .i64 0), .val (.int .i64 0), .val (.int .i64 0), .val (.int .i64 0), .val (.slice none 0 0), .val (.slice none 0 0)] := zero_of inf88
@[go_sem] theorem ld88 (cs : List AV) (off : Nat) : loadA Try.prog 88 cs off = if off + 9 ≤ cs.length then some (.agg ((cs.drop off).take 9)) else none := load_agg Try.underlying88 rfl inf88 cs off
@[go_sem] theorem sz89 : sizeA Try.prog 89 = some 1 := size_of inf89
@[go_sem] theorem zr89 : zeroA Try.prog 89 = some [.val (.nilFunc)] := zero_of inf89
@[go_sem] theorem ld89 (cs : List AV) (off : Nat) : loadA Try.prog 89 cs off = cs[off]? := load_one Try.underlying89 rfl inf89 cs off
attribute [go_sem] Try.underlying89
@[go_sem] theorem sz90 : sizeA Try.prog 90 = some 1 := size_of inf90
@[go_sem] theorem zr90 : zeroA Try.prog 90 = some [.val (.nilFunc)] := zero_of inf90
@[go_sem] theorem ld90 (cs : List AV) (off : Nat) : loadA Try.prog 90 cs off = cs[off]? := load_one Try.underlying90 rfl inf90 cs off
attribute [go_sem] Try.underlying90
@[go_sem] theorem sz91 : sizeA Try.prog 91 = some 1 := size_of inf91
@[go_sem] theorem zr91 : zeroA Try.prog 91 = some [.val (.nilFunc)] := zero_of inf91
@[go_sem] theorem ld91 (cs : List AV) (off : Nat) : loadA Try.prog 91 cs off = cs[off]? := load_one Try.underlying91 rfl inf91 cs off
attribute [go_sem] Try.underlying91
@[go_sem] theorem sz92 : sizeA Try.prog 92 = some 1 := size_of inf92
@[go_sem] theorem zr92 : zeroA Try.prog 92 = some [.val (.nilFunc)] := zero_of inf92
@[go_sem] theorem ld92 (cs : List AV) (off : Nat) : loadA Try.prog 92 cs off = cs[off]? := load_one Try.underlying92 rfl inf92 cs off
attribute [go_sem] Try.underlying92
@[go_sem] theorem sz93 : sizeA Try.prog 93 = some 1 := size_of inf93
@[go_sem] theorem zr93 : zeroA Try.prog 93 = some [.val (.nilFunc)] := zero_of inf93
@[go_sem] theorem ld93 (cs : List AV) (off : Nat) : loadA Try.prog 93 cs off = cs[off]? := load_one Try.underlying93 rfl inf93 cs off
attribute [go_sem] Try.underlying93
@[go_sem] theorem sz94 : sizeA Try.prog 94 = some 1 := size_of inf94
@[go_sem] theorem zr94 : zeroA Try.prog 94 = some [.val (.nilFunc)] := zero_of inf94
@[go_sem] theorem ld94 (cs : List AV) (off : Nat) : loadA Try.prog 94 cs off = cs[off]? := load_one Try.underlying94 rfl inf94 cs off
attribute [go_sem] Try.underlying94
@[go_sem] theorem sz95 : sizeA Try.prog 95 = some 1 := size_of inf95
@[go_sem] theorem zr95 : zeroA Try.prog 95 = some [.val (.nilFunc)] := zero_of inf95
@[go_sem] theorem ld95 (cs : List AV) (off : Nat) : loadA Try.prog 95 cs off = cs[off]? := load_one Try.underlying95 rfl inf95 cs off
attribute [go_sem] Try.underlying95
@[go_sem] theorem sz96 : sizeA Try.prog 96 = some 1 := size_of inf96
@[go_sem] theorem zr96 : zeroA Try.prog 96 = some [.val (.nilFunc)] := zero_of inf96
@[go_sem] theorem ld96 (cs : List AV) (off : Nat) : loadA Try.prog 96 cs off = cs[off]? := load_one Try.underlying96 rfl inf96 cs off
attribute [go_sem] Try.underlying96
@[go_sem] theorem sz97 : sizeA Try.prog 97 = some 1 := size_of inf97
@[go_sem] theorem zr97 : zeroA Try.prog 97 = some [.val (.nilFunc)] := zero_of inf97
@[go_sem] theorem ld97 (cs : List AV) (off : Nat) : loadA Try.prog 97 cs off = cs[off]? := load_one Try.underlying97 rfl inf97 cs off
attribute [go_sem] Try.underlying97
@[go_sem] theorem sz98 : sizeA Try.prog 98 = some 1 := size_of inf98
@[go_sem] theorem zr98 : zeroA Try.prog 98 = some [.val (.nilFunc)] := zero_of inf98
@[go_sem] theorem ld98 (cs : List AV) (off : Nat) : loadA Try.prog 98 cs off = cs[off]? := load_one Try.underlying98 rfl inf98 cs off
attribute [go_sem] Try.underlying98
@[go_sem] theorem sz99 : sizeA Try.prog 99 = some 1 := size_of inf99
@[go_sem] theorem zr99 : zeroA Try.prog 99 = some [.val (.nilFunc)] := zero_of inf99
@[go_sem] theorem ld99 (cs : List AV) (off : Nat) : loadA Try.prog 99 cs off = cs[off]? := load_one Try.underlying99 rfl inf99 cs off
attribute [go_sem] Try.underlying99
@[go_sem] theorem sz100 : sizeA Try.prog 100 = some 1 := size_of inf100
@[go_sem] theorem zr100 : zeroA Try.prog 100 = some [.val (.nilFunc)] := zero_of inf100
@[go_sem] theorem ld100 (cs : List AV) (off : Nat) : loadA Try.prog 100 cs off = cs[off]? := load_one Try.underlying100 rfl inf100 cs off
attribute [go_sem] Try.underlying100
@[go_sem] theorem sz101 : sizeA Try.prog 101 = some 1 := size_of inf101
@[go_sem] theorem zr101 : zeroA Try.prog 101 = some [.val (.nilFunc)] := zero_of inf101
@[go_sem] theorem ld101 (cs : List AV) (off : Nat) : loadA Try.prog 101 cs off = cs[off]? := load_one Try.underlying101 rfl inf101 cs off
attribute [go_sem] Try.underlying101
@[go_sem] theorem sz102 : sizeA Try.prog 102 = some 1 := size_of inf102
@[go_sem] theorem zr102 : zeroA Try.prog 102 = some [.val (.nilFunc)] := zero_of inf102
@[go_sem] theorem ld102 (cs : List AV) (off : Nat) : loadA Try.prog 102 cs off = cs[off]? := load_one Try.underlying102 rfl inf102 cs off
attribute [go_sem] Try.underlying102
@[go_sem] theorem sz103 : sizeA Try.prog 103 = some 1 := size_of inf103
@[go_sem] theorem zr103 : zeroA Try.prog 103 = some [.val (.nilFunc)] := zero_of inf103
@[go_sem] theorem ld103 (cs : List AV) (off : Nat) : loadA Try.prog 103 cs off = cs[off]? := load_one Try.underlying103 rfl inf103 cs off
attribute [go_sem] Try.underlying103
@[go_sem] theorem sz104 : sizeA Try.prog 104 = some 1 := size_of inf104
@[go_sem] theorem zr104 : zeroA Try.prog 104 = some [.val (.nilFunc)] := zero_of inf104
@[go_sem] theorem ld104 (cs : List AV) (off : Nat) : loadA Try.prog 104 cs off = cs[off]? := load_one Try.underlying104 rfl inf104 cs off
attribute [go_sem] Try.underlying104
@[go_sem] theorem sz105 : sizeA Try.prog 105 = some 1 := size_of inf105
@[go_sem] theorem zr105 : zeroA Try.prog 105 = some [.val (.nilFunc)] := zero_of inf105
@[go_sem] theorem ld105 (cs : List AV) (off : Nat) : loadA Try.prog 105 cs off = cs[off]? := load_one Try.underlying105 rfl inf105 cs off
attribute [go_sem] Try.underlying105
@[go_sem] theorem sz106 : sizeA Try.prog 106 = some 1 := size_of inf106
@[go_sem] theorem zr106 : zeroA Try.prog 106 = some [.val (.nilFunc)] := zero_of inf106
@[go_sem] theorem ld106 (cs : List AV) (off : Nat) : loadA Try.prog 106 cs off = cs[off]? := load_one Try.underlying106 rfl inf106 cs off
attribute [go_sem] Try.underlying106
@[go_sem] theorem sz107 : sizeA Try.prog 107 = some 1 := size_of inf107
@[go_sem] theorem zr107 : zeroA Try.prog 107 = some [.val (.nilFunc)] := zero_of inf107
@[go_sem] theorem ld107 (cs : List AV) (off : Nat) : loadA Try.prog 107 cs off = cs[off]? := load_one Try.underlying107 rfl inf107 cs off
attribute [go_sem] Try.underlying107
@[go_sem] theorem sz108 : sizeA Try.prog 108 = some 1 := size_of inf108
@[go_sem] theorem zr108 : zeroA Try.prog 108 = some [.val (.nilFunc)] := zero_of inf108
@[go_sem] theorem ld108 (cs : List AV) (off : Nat) : loadA Try.prog 108 cs off = cs[off]? := load_one Try.underlying108 rfl inf108 cs off
attribute [go_sem] Try.underlying108
@[go_sem] theorem sz109 : sizeA Try.prog 109 = some 1 := size_of inf109
@[go_sem] theorem zr109 : zeroA Try.prog 109 = some [.val (.nilFunc)] := zero_of inf109
@[go_sem] theorem ld109 (cs : List AV) (off : Nat) : loadA Try.prog 109 cs off = cs[off]? := load_one Try.underlying109 rfl inf109 cs off
attribute [go_sem] Try.underlying109
@[go_sem] theorem sz110 : sizeA Try.prog 110 = some 2 := size_of inf110
@[go_sem] theorem zr110 : zeroA Try.prog 110 = some [.val (.int .i64 0), .val (.int .i64 0)] := zero_of inf110
@[go_sem] theorem ld110 (cs : List AV) (off : Nat) : loadA Try.prog 110 cs off = if off + 2 ≤ cs.length then some (.agg ((cs.drop off).take 2)) else none := load_agg Try.underlying110 rfl inf110 cs off
@[go_sem] theorem sz111 : sizeA Try.prog 111 = some 7 := size_of inf111
@[go_sem] theorem zr111 : zeroA Try.prog 111 = some [.val (.int .i64 0), .val (.int .i64 0), .val (.int .i64 0), .val (.int .i64 0), .val (.int .i64 0), .val (.slice none 0 0), .val (.int .i64 0)] := zero_of inf111
@[go_sem] theorem ld111 (cs : List AV) (off : Nat) : loadA Try.prog 111 cs off = if off + 7 ≤ cs.length then some (.agg ((cs.drop off).take 7)) else none := load_agg Try.underlying111 rfl inf111 cs off
@[go_sem] theorem sz112 : sizeA Try.prog 112 = some 7 := size_of inf112
@[go_sem] theorem zr112 : zeroA Try.prog 112 = some [.val (.int .i64 0), .val (.int .i64 0), .val (.int .i64 0), .val (.int .i64 0), .val (.int .i64 0), .val (.slice none 0 0), .val (.int .i64 0)] := zero_of inf112
@[go_sem] theorem ld112 (cs : List AV) (off : Nat) : loadA Try.prog 112 cs off = if off + 7 ≤ cs.length then some (.agg ((cs.drop off).take 7)) else none := load_agg Try.underlying112 rfl inf112 cs off
@[go_sem] theorem sz113 : sizeA Try.prog 113 = some 1 := size_of inf113
@[go_sem] theorem zr113 : zeroA Try.prog 113 = some [.val (.nilFunc)] := zero_of inf113
@[go_sem] theorem ld113 (cs : List AV) (off : Nat) : loadA Try.prog 113 cs off = cs[off]? := load_one Try.underlying113 rfl inf113 cs off
attribute [go_sem] Try.underlying113
@[go_sem] theorem sz115 : sizeA Try.prog 115 = some 1 := size_of inf115
@[go_sem] theorem zr115 : zeroA Try.prog 115 = some [.val (.pointer none)] := zero_of inf115
@[go_sem] theorem ld115 (cs : List AV) (off : Nat) : loadA Try.prog 115 cs off = cs[off]? := load_one Try.underlying115 rfl inf115 cs off
attribute [go_sem] Try.underlying115
@[go_sem] theorem sz116 : sizeA Try.prog 116 = some 1 := size_of inf116
@[go_sem] theorem zr116 : zeroA Try.prog 116 = some [.val (.slice none 0 0)] := zero_of inf116
@[go_sem] theorem ld116 (cs : List AV) (off : Nat) : loadA Try.prog 116 cs off = cs[off]? := load_one Try.underlying116 rfl inf116 cs off
attribute [go_sem] Try.underlying116
@[go_sem] theorem sz119 : sizeA Try.prog 119 = some 1 := size_of inf119
@[go_sem] theorem zr119 : zeroA Try.prog 119 = some [.val (.nilFunc)] := zero_of inf119
@[go_sem] theorem ld119 (cs : List AV) (off : Nat) : loadA Try.prog 119 cs off = cs[off]? := load_one Try.underlying119 rfl inf119 cs off
attribute [go_sem] Try.underlying119
@[go_sem] theorem sz120 : sizeA Try.prog 120 = some 7 := size_of inf120
@[go_sem] theorem zr120 : zeroA Try.prog 120 = some [.val (.nilFunc), .val (.nilFunc), .val (.nilFunc), .val (.nilFunc), .val (.nilFunc), .val (.nilFunc), .val (.nilFunc)] := zero_of inf120
@[go_sem] theorem ld120 (cs : List AV) (off : Nat) : loadA Try.prog 120 cs off = if off + 7 ≤ cs.length then some (.agg ((cs.drop off).take 7)) else none := load_agg Try.underlying120 rfl inf120 cs off
@[go_sem] theorem sz121 : sizeA Try.prog 121 = some 1 := size_of inf121
@[go_sem] theorem zr121 : zeroA Try.prog 121 = some [.val (.nilFunc)] := zero_of inf121
@[go_sem] theorem ld121 (cs : List AV) (off : Nat) : loadA Try.prog 121 cs off = cs[off]? := load_one Try.underlying121 rfl inf121 cs off
attribute [go_sem] Try.underlying121
@[go_sem] theorem sz122 : sizeA Try.prog 122 = some 1 := size_of inf122
@[go_sem] theorem zr122 : zeroA Try.prog 122 = some [.val (.nilFunc)] := zero_of inf122
@[go_sem] theorem ld122 (cs : List AV) (off : Nat) : loadA Try.prog 122 cs off = cs[off]? := load_one Try.underlying122 rfl inf122 cs off
attribute [go_sem] Try.underlying122
@[go_sem] theorem sz123 : sizeA Try.prog 123 = some 1 := size_of inf123
@[go_sem] theorem zr123 : zeroA Try.prog 123 = some [.val (.nilFunc)] := zero_of inf123
@[go_sem] theorem ld123 (cs : List AV) (off : Nat) : loadA Try.prog 123 cs off = cs[off]? := load_one Try.underlying123 rfl inf123 cs off
attribute [go_sem] Try.underlying123
@[go_sem] theorem sz124 : sizeA Try.prog 124 = some 1 := size_of inf124
@[go_sem] theorem zr124 : zeroA Try.prog 124 = some [.val (.nilFunc)] := zero_of inf124
@[go_sem] theorem ld124 (cs : List AV) (off : Nat) : loadA Try.prog 124 cs off = cs[off]? := load_one Try.underlying124 rfl inf124 cs off
attribute [go_sem] Try.underlying124
@[go_sem] theorem sz125 : sizeA Try.prog 125 = some 1 := size_of inf125
@[go_sem] theorem zr125 : zeroA Try.prog 125 = some [.val (.nilFunc)] := zero_of inf125
@[go_sem] theorem ld125 (cs : List AV) (off : Nat) : loadA Try.prog 125 cs off = cs[off]? := load_one Try.underlying125 rfl inf125 cs off
attribute [go_sem] Try.underlying125
@[go_sem] theorem sz126 : sizeA Try.prog 126 = some 1 := size_of inf126
@[go_sem] theorem zr126 : zeroA Try.prog 126 = some [.val (.nilFunc)] := zero_of inf126
@[go_sem] theorem ld126 (cs : List AV) (off : Nat) : loadA Try.prog 126 cs off = cs[off]? := load_one Try.underlying126 rfl inf126 cs off
attribute [go_sem] Try.underlying126
@[go_sem] theorem sz127 : sizeA Try.prog 127 = some 1 := size_of inf127
@[go_sem] theorem zr127 : zeroA Try.prog 127 = some [.val (.slice none 0 0)] := zero_of inf127
@[go_sem] theorem ld127 (cs : List AV) (off : Nat) : loadA Try.prog 127 cs off = cs[off]? := load_one Try.underlying127 rfl inf127 cs off
attribute [go_sem] Try.underlying127
@[go_sem] theorem sz128 : sizeA Try.prog 128 = some 1 := size_of inf128
@[go_sem] theorem zr128 : zeroA Try.prog 128 = some [.val (.nilFunc)] := zero_of inf128
@[go_sem] theorem ld128 (cs : List AV) (off : Nat) : loadA Try.prog 128 cs off = cs[off]? := load_one Try.underlying128 rfl inf128 cs off
attribute [go_sem] Try.underlying128
@[go_sem] theorem sz129 : sizeA Try.prog 129 = some 1 := size_of inf129
@[go_sem] theorem zr129 : zeroA Try.prog 129 = some [.val (.nilFunc)] := zero_of inf129
@[go_sem] theorem ld129 (cs : List AV) (off : Nat) : loadA Try.prog 129 cs off = cs[off]? := load_one Try.underlying129 rfl inf129 cs off
attribute [go_sem] Try.underlying129
@[go_sem] theorem sz130 : sizeA Try.prog 130 = some 1 := size_of inf130
@[go_sem] theorem zr130 : zeroA Try.prog 130 = some [.val (.nilFunc)] := zero_of inf130
@[go_sem] theorem ld130 (cs : List AV) (off : Nat) : loadA Try.prog 130 cs off = cs[off]? := load_one Try.underlying130 rfl inf130 cs off
attribute [go_sem] Try.underlying130
@[go_sem] theorem sz131 : sizeA Try.prog 131 = some 1 := size_of inf131
@[go_sem] theorem zr131 : zeroA Try.prog 131 = some [.val (.nilFunc)] := zero_of inf131
@[go_sem] theorem ld131 (cs : List AV) (off : Nat) : loadA Try.prog 131 cs off = cs[off]? := load_one Try.underlying131 rfl inf131 cs off
attribute [go_sem] Try.underlying131
@[go_sem] theorem sz132 : sizeA Try.prog 132 = some 1 := size_of inf132
@[go_sem] theorem zr132 : zeroA Try.prog 132 = some [.val (.nilFunc)] := zero_of inf132
@[go_sem] theorem ld132 (cs : List AV) (off : Nat) : loadA Try.prog 132 cs off = cs[off]? := load_one Try.underlying132 rfl inf132 cs off
attribute [go_sem] Try.underlying132
@[go_sem] theorem sz133 : sizeA Try.prog 133 = some 1 := size_of inf133
@[go_sem] theorem zr133 : zeroA Try.prog 133 = some [.val (.nilFunc)] := zero_of inf133
@[go_sem] theorem ld133 (cs : List AV) (off : Nat) : loadA Try.prog 133 cs off = cs[off]? := load_one Try.underlying133 rfl inf133 cs off
attribute [go_sem] Try.underlying133
@[go_sem] theorem sz136 : sizeA Try.prog 136 = some 0 := size_of inf136
@[go_sem] theorem zr136 : zeroA Try.prog 136 = some [] := zero_of inf136
@[go_sem] theorem ld136 (cs : List AV) (off : Nat) : loadA Try.prog 136 cs off = if off + 0 ≤ cs.length then some (.agg ((cs.drop off).take 0)) else none := load_agg Try.underlying136 rfl inf136 cs off
@[go_sem] theorem sz137 : sizeA Try.prog 137 = some 0 := size_of inf137
@[go_sem] theorem zr137 : zeroA Try.prog 137 = some [] := zero_of inf137
@[go_sem] theorem ld137 (cs : List AV) (off : Nat) : loadA Try.prog 137 cs off = if off + 0 ≤ cs.length then some (.agg ((cs.drop off).take 0)) else none := load_agg Try.underlying137 rfl inf137 cs off
@[go_sem] theorem sz138 : sizeA Try.prog 138 = some 0 := size_of inf138
@[go_sem] theorem zr138 : zeroA Try.prog 138 = some [] := zero_of inf138
@[go_sem] theorem ld138 (cs : List AV) (off : Nat) : loadA Try.prog 138 cs off = if off + 0 ≤ cs.length then some (.agg ((cs.drop off).take 0)) else none := load_agg Try.underlying138 rfl inf138 cs off
@[go_sem] theorem sz139 : sizeA Try.prog 139 = some 1 := size_of inf139
@[go_sem] theorem zr139 : zeroA Try.prog 139 = some [.val (.int .u8 0)] := zero_of inf139
@[go_sem] theorem ld139 (cs : List AV) (off : Nat) : loadA Try.prog 139 cs off = cs[off]? := load_one Try.underlying139 rfl inf139 cs off
attribute [go_sem] Try.underlying139
@[go_sem] theorem sz140 : sizeA Try.prog 140 = some 1 := size_of inf140
@[go_sem] theorem zr140 : zeroA Try.prog 140 = some [.val (.int .u8 0)] := zero_of inf140
@[go_sem] theorem ld140 (cs : List AV) (off : Nat) : loadA Try.prog 140 cs off = cs[off]? := load_one Try.underlying140 rfl inf140 cs off
attribute [go_sem] Try.underlying140
@[go_sem] theorem sz141 : sizeA Try.prog 141 = some 1 := size_of inf141
@[go_sem] theorem zr141 : zeroA Try.prog 141 = some [.val (.nilFunc)] := zero_of inf141
@[go_sem] theorem ld141 (cs : List AV) (off : Nat) : loadA Try.prog 141 cs off = cs[off]? := load_one Try.underlying141 rfl inf141 cs off
attribute [go_sem] Try.underlying141
@[go_sem] theorem sz142 : sizeA Try.prog 142 = some 1 := size_of inf142
@[go_sem] theorem zr142 : zeroA Try.prog 142 = some [.val (.pointer none)] := zero_of inf142
@[go_sem] theorem ld142 (cs : List AV) (off : Nat) : loadA Try.prog 142 cs off = cs[off]? := load_one Try.underlying142 rfl inf142 cs off
attribute [go_sem] Try.underlying142
@[go_sem] theorem sz143 : sizeA Try.prog 143 = some 1 := size_of inf143
@[go_sem] theorem zr143 : zeroA Try.prog 143 = some [.val (.int .i32 0)] := zero_of inf143
@[go_sem] theorem ld143 (cs : List AV) (off : Nat) : loadA Try.prog 143 cs off = cs[off]? := load_one Try.underlying143 rfl inf143 cs off
attribute [go_sem] Try.underlying143
@[go_sem] theorem sz144 : sizeA Try.prog 144 = some 1 := size_of inf144
@[go_sem] theorem zr144 : zeroA Try.prog 144 = some [.val (.int .i32 0)] := zero_of inf144
@[go_sem] theorem ld144 (cs : List AV) (off : Nat) : loadA Try.prog 144 cs off = cs[off]? := load_one Try.underlying144 rfl inf144 cs off
attribute [go_sem] Try.underlying144
@[go_sem] theorem sz147 : sizeA Try.prog 147 = some 1 := size_of inf147
@[go_sem] theorem zr147 : zeroA Try.prog 147 = some [.val (.pointer none)] := zero_of inf147
@[go_sem] theorem ld147 (cs : List AV) (off : Nat) : loadA Try.prog 147 cs off = cs[off]? := load_one Try.underlying147 rfl inf147 cs off
attribute [go_sem] Try.underlying147
@[go_sem] theorem fo7_0 : fieldOff Try.prog 7 0 = some 0 := field_off Try.underlying7 rfl sz2 (by decide)
@[go_sem] theorem ft7_0 : fieldTO Try.prog 7 0 = some (2, 0) := field_to Try.underlying7 rfl
@[go_sem] theorem fo7_1 : fieldOff Try.prog 7 1 = some 1 := field_off Try.underlying7 rfl sz3 (by decide)
@[go_sem] theorem ft7_1 : fieldTO Try.prog 7 1 = some (3, 1) := field_to Try.underlying7 rfl
@[go_sem] theorem fo7_2 : fieldOff Try.prog 7 2 = some 2 := field_off Try.underlying7 rfl sz4 (by decide)
@[go_sem] theorem ft7_2 : fieldTO Try.prog 7 2 = some (4, 2) := field_to Try.underlying7 rfl
@[go_sem] theorem fo7_3 : fieldOff Try.prog 7 3 = some 3 := field_off Try.underlying7 rfl sz6 (by decide)
@[go_sem] theorem ft7_3 : fieldTO Try.prog 7 3 = some (6, 3) := field_to Try.underlying7 rfl
@[go_sem] theorem bd7 (ps : List (Nat × AV)) : buildA Try.prog 7 ps = (fillA (fun i => ([(0, 1), (1, 1), (2, 1), (3, 1)] : List (Nat × Nat))[i]?) [.val (.int .i64 0), .val (.int .i64 0), .val (.bool false), .val (.int .u8 0)] ps).map .agg := build_of Try.underlying7 inf7 (by simp only [List.map_cons, List.map_nil, sz2, sz3, sz4, sz6, Option.map_some]) ps
@[go_sem] theorem eq7 (x0 y0 : Int) (x1 y1 : Int) (x2 y2 : Bool) (x3 y3 : Int) : aggEq Try.prog 7 (.agg #[.int .i64 x0, .int .i64 x1, .bool x2, .int .u8 x3]) (.agg #[.int .i64 y0, .int .i64 y1, .bool y2, .int .u8 y3]) = some (x0 == y0 && (x1 == y1 && (x2 == y2 && (x3 == y3 && true)))) := by kernel_rfl
@[go_sem high] theorem be7 {a b : Operand} (x0 y0 : Int) (x1 y1 : Int) (x2 y2 : Bool) (x3 y3 : Int) : binA Try.prog .eql 7 a b (.agg [.val (.int .i64 x0), .val (.int .i64 x1), .val (.bool x2), .val (.int .u8 x3)]) (.agg [.val (.int .i64 y0), .val (.int .i64 y1), .val (.bool y2), .val (.int .u8 y3)]) = some (.val (.bool (x0 == y0 && (x1 == y1 && (x2 == y2 && (x3 == y3 && true)))))) := (bin_agg Try.underlying7 rfl rfl (eq7 ..)).1
@[go_sem high] theorem bq7 {a b : Operand} (x0 y0 : Int) (x1 y1 : Int) (x2 y2 : Bool) (x3 y3 : Int) : binA Try.prog .neq 7 a b (.agg [.val (.int .i64 x0), .val (.int .i64 x1), .val (.bool x2), .val (.int .u8 x3)]) (.agg [.val (.int .i64 y0), .val (.int .i64 y1), .val (.bool y2), .val (.int .u8 y3)]) = some (.val (.bool (!((x0 == y0 && (x1 == y1 && (x2 == y2 && (x3 == y3 && true)))))))) := (bin_agg Try.underlying7 rfl rfl (eq7 ..)).2
@[go_sem] theorem fo8_0 : fieldOff Try.prog 8 0 = some 0 := field_off Try.underlying8 rfl sz2 (by decide)
@[go_sem] theorem ft8_0 : fieldTO Try.prog 8 0 = some (2, 0) := field_to Try.underlying8 rfl
@[go_sem] theorem fo8_1 : fieldOff Try.prog 8 1 = some 1 := field_off Try.underlying8 rfl sz3 (by decide)
@[go_sem] theorem ft8_1 : fieldTO Try.prog 8 1 = some (3, 1) := field_to Try.underlying8 rfl
@[go_sem] theorem fo8_2 : fieldOff Try.prog 8 2 = some 2 := field_off Try.underlying8 rfl sz4 (by decide)
@[go_sem] theorem ft8_2 : fieldTO Try.prog 8 2 = some (4, 2) := field_to Try.underlying8 rfl
@[go_sem] theorem fo8_3 : fieldOff Try.prog 8 3 = some 3 := field_off Try.underlying8 rfl sz6 (by decide)
@[go_sem] theorem ft8_3 : fieldTO Try.prog 8 3 = some (6, 3) := field_to Try.underlying8 rfl
@[go_sem] theorem bd8 (ps : List (Nat × AV)) : buildA Try.prog 8 ps = (fillA (fun i => ([(0, 1), (1, 1), (2, 1), (3, 1)] : List (Nat × Nat))[i]?) [.val (.int .i64 0), .val (.int .i64 0), .val (.bool false), .val (.int .u8 0)] ps).map .agg := build_of Try.underlying8 inf8 (by simp only [List.map_cons, List.map_nil, sz2, sz3, sz4, sz6, Option.map_some]) ps
@[go_sem] theorem eq8 (x0 y0 : Int) (x1 y1 : Int) (x2 y2 : Bool) (x3 y3 : Int) : aggEq Try.prog 8 (.agg #[.int .i64 x0, .int .i64 x1, .bool x2, .int .u8 x3]) (.agg #[.int .i64 y0, .int .i64 y1, .bool y2, .int .u8 y3]) = some (x0 == y0 && (x1 == y1 && (x2 == y2 && (x3 == y3 && true)))) := by kernel_rfl
@[go_sem high] theorem be8 {a b : Operand} (x0 y0 : Int) (x1 y1 : Int) (x2 y2 : Bool) (x3 y3 : Int) : binA Try.prog .eql 8 a b (.agg [.val (.int .i64 x0), .val (.int .i64 x1), .val (.bool x2), .val (.int .u8 x3)]) (.agg [.val (.int .i64 y0), .val (.int .i64 y1), .val (.bool y2), .val (.int .u8 y3)]) = some (.val (.bool (x0 == y0 && (x1 == y1 && (x2 == y2 && (x3 == y3 && true)))))) := (bin_agg Try.underlying8 rfl rfl (eq8 ..)).1
@[go_sem high] theorem bq8 {a b : Operand} (x0 y0 : Int) (x1 y1 : Int) (x2 y2 : Bool) (x3 y3 : Int) : binA Try.prog .neq 8 a b (.agg [.val (.int .i64 x0), .val (.int .i64 x1), .val (.bool x2), .val (.int .u8 x3)]) (.agg [.val (.int .i64 y0), .val (.int .i64 y1), .val (.bool y2), .val (.int .u8 y3)]) = some (.val (.bool (!((x0 == y0 && (x1 == y1 && (x2 == y2 && (x3 == y3 && true)))))))) := (bin_agg Try.underlying8 rfl rfl (eq8 ..)).2
@[go_sem] theorem fo13_0 : fieldOff Try.prog 13 0 = some 0 := field_off Try.underlying13 rfl sz9 (by decide)
@[go_sem] theorem ft13_0 : fieldTO Try.prog 13 0 = some (9, 0) := field_to Try.underlying13 rfl
@[go_sem] theorem fo13_1 : fieldOff Try.prog 13 1 = some 1 := field_off Try.underlying13 rfl sz12 (by decide)
@[go_sem] theorem ft13_1 : fieldTO Try.prog 13 1 = some (12, 1) := field_to Try.underlying13 rfl
@[go_sem] theorem bd13 (ps : List (Nat × AV)) : buildA Try.prog 13 ps = (fillA (fun i => ([(0, 1), (1, 1)] : List (Nat × Nat))[i]?) [.val (.string ⟨#[]⟩), .val (.int .u64 0)] ps).map .agg := build_of Try.underlying13 inf13 (by simp only [List.map_cons, List.map_nil, sz9, sz12, Option.map_some]) ps
@[go_sem] theorem fo14_0 : fieldOff Try.prog 14 0 = some 0 := field_off Try.underlying14 rfl sz9 (by decide)
@[go_sem] theorem ft14_0 : fieldTO Try.prog 14 0 = some (9, 0) := field_to Try.underlying14 rfl
@[go_sem] theorem fo14_1 : fieldOff Try.prog 14 1 = some 1 := field_off Try.underlying14 rfl sz12 (by decide)
@[go_sem] theorem ft14_1 : fieldTO Try.prog 14 1 = some (12, 1) := field_to Try.underlying14 rfl
@[go_sem] theorem bd14 (ps : List (Nat × AV)) : buildA Try.prog 14 ps = (fillA (fun i => ([(0, 1), (1, 1)] : List (Nat × Nat))[i]?) [.val (.string ⟨#[]⟩), .val (.int .u64 0)] ps).map .agg := build_of Try.underlying14 inf14 (by simp only [List.map_cons, List.map_nil, sz9, sz12, Option.map_some]) ps
@[go_sem] theorem fo18_0 : fieldOff Try.prog 18 0 = some 0 := field_off Try.underlying18 rfl sz17 (by decide)
@[go_sem] theorem ft18_0 : fieldTO Try.prog 18 0 = some (17, 0) := field_to Try.underlying18 rfl
@[go_sem] theorem bd18 (ps : List (Nat × AV)) : buildA Try.prog 18 ps = (fillA (fun i => ([(0, 1)] : List (Nat × Nat))[i]?) [.val (.pointer none)] ps).map .agg := build_of Try.underlying18 inf18 (by simp only [List.map_cons, List.map_nil, sz17, Option.map_some]) ps
@[go_sem] theorem fo19_0 : fieldOff Try.prog 19 0 = some 0 := field_off Try.underlying19 rfl sz17 (by decide)
@[go_sem] theorem ft19_0 : fieldTO Try.prog 19 0 = some (17, 0) := field_to Try.underlying19 rfl
@[go_sem] theorem bd19 (ps : List (Nat × AV)) : buildA Try.prog 19 ps = (fillA (fun i => ([(0, 1)] : List (Nat × Nat))[i]?) [.val (.pointer none)] ps).map .agg := build_of Try.underlying19 inf19 (by simp only [List.map_cons, List.map_nil, sz17, Option.map_some]) ps
@[go_sem] theorem fo22_0 : fieldOff Try.prog 22 0 = some 0 := field_off Try.underlying22 rfl sz2 (by decide)
@[go_sem] theorem ft22_0 : fieldTO Try.prog 22 0 = some (2, 0) := field_to Try.underlying22 rfl
@[go_sem] theorem fo22_1 : fieldOff Try.prog 22 1 = some 1 := field_off Try.underlying22 rfl sz2 (by decide)
@[go_sem] theorem ft22_1 : fieldTO Try.prog 22 1 = some (2, 1) := field_to Try.underlying22 rfl
@[go_sem] theorem bd22 (ps : List (Nat × AV)) : buildA Try.prog 22 ps = (fillA (fun i => ([(0, 1), (1, 1)] : List (Nat × Nat))[i]?) [.val (.int .i64 0), .val (.int .i64 0)] ps).map .agg := build_of Try.underlying22 inf22 (by simp only [List.map_cons, List.map_nil, sz2, Option.map_some]) ps
@[go_sem] theorem eq22 (x0 y0 : Int) (x1 y1 : Int) : aggEq Try.prog 22 (.agg #[.int .i64 x0, .int .i64 x1]) (.agg #[.int .i64 y0, .int .i64 y1]) = some (x0 == y0 && (x1 == y1 && true)) := by kernel_rfl
@[go_sem high] theorem be22 {a b : Operand} (x0 y0 : Int) (x1 y1 : Int) : binA Try.prog .eql 22 a b (.agg [.val (.int .i64 x0), .val (.int .i64 x1)]) (.agg [.val (.int .i64 y0), .val (.int .i64 y1)]) = some (.val (.bool (x0 == y0 && (x1 == y1 && true)))) := (bin_agg Try.underlying22 rfl rfl (eq22 ..)).1
@[go_sem high] theorem bq22 {a b : Operand} (x0 y0 : Int) (x1 y1 : Int) : binA Try.prog .neq 22 a b (.agg [.val (.int .i64 x0), .val (.int .i64 x1)]) (.agg [.val (.int .i64 y0), .val (.int .i64 y1)]) = some (.val (.bool (!((x0 == y0 && (x1 == y1 && true)))))) := (bin_agg Try.underlying22 rfl rfl (eq22 ..)).2
@[go_sem] theorem fo23_0 : fieldOff Try.prog 23 0 = some 0 := field_off Try.underlying23 rfl sz2 (by decide)
@[go_sem] theorem ft23_0 : fieldTO Try.prog 23 0 = some (2, 0) := field_to Try.underlying23 rfl
@[go_sem] theorem fo23_1 : fieldOff Try.prog 23 1 = some 1 := field_off Try.underlying23 rfl sz2 (by decide)
@[go_sem] theorem ft23_1 : fieldTO Try.prog 23 1 = some (2, 1) := field_to Try.underlying23 rfl
@[go_sem] theorem bd23 (ps : List (Nat × AV)) : buildA Try.prog 23 ps = (fillA (fun i => ([(0, 1), (1, 1)] : List (Nat × Nat))[i]?) [.val (.int .i64 0), .val (.int .i64 0)] ps).map .agg := build_of Try.underlying23 inf23 (by simp only [List.map_cons, List.map_nil, sz2, Option.map_some]) ps
@[go_sem] theorem eq23 (x0 y0 : Int) (x1 y1 : Int) : aggEq Try.prog 23 (.agg #[.int .i64 x0, .int .i64 x1]) (.agg #[.int .i64 y0, .int .i64 y1]) = some (x0 == y0 && (x1 == y1 && true)) := by kernel_rfl
@[go_sem high] theorem be23 {a b : Operand} (x0 y0 : Int) (x1 y1 : Int) : binA Try.prog .eql 23 a b (.agg [.val (.int .i64 x0), .val (.int .i64 x1)]) (.agg [.val (.int .i64 y0), .val (.int .i64 y1)]) = some (.val (.bool (x0 == y0 && (x1 == y1 && true)))) := (bin_agg Try.underlying23 rfl rfl (eq23 ..)).1
@[go_sem high] theorem bq23 {a b : Operand} (x0 y0 : Int) (x1 y1 : Int) : binA Try.prog .neq 23 a b (.agg [.val (.int .i64 x0), .val (.int .i64 x1)]) (.agg [.val (.int .i64 y0), .val (.int .i64 y1)]) = some (.val (.bool (!((x0 == y0 && (x1 == y1 && true)))))) := (bin_agg Try.underlying23 rfl rfl (eq23 ..)).2
@[go_sem] theorem fo24_0 : fieldOff Try.prog 24 0 = some 0 := field_off Try.underlying24 rfl sz3 (by decide)
@[go_sem] theorem ft24_0 : fieldTO Try.prog 24 0 = some (3, 0) := field_to Try.underlying24 rfl
@[go_sem] theorem fo24_1 : fieldOff Try.prog 24 1 = some 1 := field_off Try.underlying24 rfl sz3 (by decide)
@[go_sem] theorem ft24_1 : fieldTO Try.prog 24 1 = some (3, 1) := field_to Try.underlying24 rfl
@[go_sem] theorem fo24_2 : fieldOff Try.prog 24 2 = some 2 := field_off Try.underlying24 rfl sz3 (by decide)
@[go_sem] theorem ft24_2 : fieldTO Try.prog 24 2 = some (3, 2) := field_to Try.underlying24 rfl
@[go_sem] theorem fo24_3 : fieldOff Try.prog 24 3 = some 3 := field_off Try.underlying24 rfl sz23 (by decide)
@[go_sem] theorem ft24_3 : fieldTO Try.prog 24 3 = some (23, 3) := field_to Try.underlying24 rfl
@[go_sem] theorem fo24_4 : fieldOff Try.prog 24 4 = some 5 := field_off Try.underlying24 rfl sz2 (by decide)
@[go_sem] theorem ft24_4 : fieldTO Try.prog 24 4 = some (2, 5) := field_to Try.underlying24 rfl
@[go_sem] theorem fo24_5 : fieldOff Try.prog 24 5 = some 6 := field_off Try.underlying24 rfl sz2 (by decide)
@[go_sem] theorem ft24_5 : fieldTO Try.prog 24 5 = some (2, 6) := field_to Try.underlying24 rfl
@[go_sem] theorem bd24 (ps : List (Nat × AV)) : buildA Try.prog 24 ps = (fillA (fun i => ([(0, 1), (1, 1), (2, 1), (3, 2), (5, 1), (6, 1)] : List (Nat × Nat))[i]?) [.val (.int .i64 0), .val (.int .i64 0), .val (.int .i64 0), .val (.int .i64 0), .val (.int .i64 0), .val (.int .i64 0), .val (.int .i64 0)] ps).map .agg := build_of Try.underlying24 inf24 (by simp only [List.map_cons, List.map_nil, sz2, sz3, sz23, Option.map_some]) ps
@[go_sem] theorem eq24 (x0 y0 : Int) (x1 y1 : Int) (x2 y2 : Int) (x3 y3 : Int) (x4 y4 : Int) (x5 y5 : Int) (x6 y6 : Int) : aggEq Try.prog 24 (.agg #[.int .i64 x0, .int .i64 x1, .int .i64 x2, .int .i64 x3, .int .i64 x4, .int .i64 x5, .int .i64 x6]) (.agg #[.int .i64 y0, .int .i64 y1, .int .i64 y2, .int .i64 y3, .int .i64 y4, .int .i64 y5, .int .i64 y6]) = some (x0 == y0 && (x1 == y1 && (x2 == y2 && ((x3 == y3 && (x4 == y4 && true)) && (x5 == y5 && (x6 == y6 && true)))))) := by kernel_rfl
@[go_sem high] theorem be24 {a b : Operand} (x0 y0 : Int) (x1 y1 : Int) (x2 y2 : Int) (x3 y3 : Int) (x4 y4 : Int) (x5 y5 : Int) (x6 y6 : Int) : binA Try.prog .eql 24 a b (.agg [.val (.int .i64 x0), .val (.int .i64 x1), .val (.int .i64 x2), .val (.int .i64 x3), .val (.int .i64 x4), .val (.int .i64 x5), .val (.int .i64 x6)]) (.agg [.val (.int .i64 y0), .val (.int .i64 y1), .val (.int .i64 y2), .val (.int .i64 y3), .val (.int .i64 y4), .val (.int .i64 y5), .val (.int .i64 y6)]) = some (.val (.bool (x0 == y0 && (x1 == y1 && (x2 == y2 && ((x3 == y3 && (x4 == y4 && true)) && (x5 == y5 && (x6 == y6 && true)))))))) := (bin_agg Try.underlying24 rfl rfl (eq24 ..)).1
@[go_sem high] theorem bq24 {a b : Operand} (x0 y0 : Int) (x1 y1 : Int) (x2 y2 : Int) (x3 y3 : Int) (x4 y4 : Int) (x5 y5 : Int) (x6 y6 : Int) : binA Try.prog .neq 24 a b (.agg [.val (.int .i64 x0), .val (.int .i64 x1), .val (.int .i64 x2), .val (.int .i64 x3), .val (.int .i64 x4), .val (.int .i64 x5), .val (.int .i64 x6)]) (.agg [.val (.int .i64 y0), .val (.int .i64 y1), .val (.int .i64 y2), .val (.int .i64 y3), .val (.int .i64 y4), .val (.int .i64 y5), .val (.int .i64 y6)]) = some (.val (.bool (!((x0 == y0 && (x1 == y1 && (x2 == y2 && ((x3 == y3 && (x4 == y4 && true)) && (x5 == y5 && (x6 == y6 && true)))))))))) := (bin_agg Try.underlying24 rfl rfl (eq24 ..)).2
@[go_sem] theorem fo25_0 : fieldOff Try.prog 25 0 = some 0 := field_off Try.underlying25 rfl sz3 (by decide)
@[go_sem] theorem ft25_0 : fieldTO Try.prog 25 0 = some (3, 0) := field_to Try.underlying25 rfl
@[go_sem] theorem fo25_1 : fieldOff Try.prog 25 1 = some 1 := field_off Try.underlying25 rfl sz3 (by decide)
@[go_sem] theorem ft25_1 : fieldTO Try.prog 25 1 = some (3, 1) := field_to Try.underlying25 rfl
@[go_sem] theorem fo25_2 : fieldOff Try.prog 25 2 = some 2 := field_off Try.underlying25 rfl sz3 (by decide)
@[go_sem] theorem ft25_2 : fieldTO Try.prog 25 2 = some (3, 2) := field_to Try.underlying25 rfl
@[go_sem] theorem fo25_3 : fieldOff Try.prog 25 3 = some 3 := field_off Try.underlying25 rfl sz23 (by decide)
@[go_sem] theorem ft25_3 : fieldTO Try.prog 25 3 = some (23, 3) := field_to Try.underlying25 rfl
@[go_sem] theorem fo25_4 : fieldOff Try.prog 25 4 = some 5 := field_off Try.underlying25 rfl sz2 (by decide)
@[go_sem] theorem ft25_4 : fieldTO Try.prog 25 4 = some (2, 5) := field_to Try.underlying25 rfl
@[go_sem] theorem fo25_5 : fieldOff Try.prog 25 5 = some 6 := field_off Try.underlying25 rfl sz2 (by decide)
@[go_sem] theorem ft25_5 : fieldTO Try.prog 25 5 = some (2, 6) := field_to Try.underlying25 rfl
@[go_sem] theorem bd25 (ps : List (Nat × AV)) : buildA Try.prog 25 ps = (fillA (fun i => ([(0, 1), (1, 1), (2, 1), (3, 2), (5, 1), (6, 1)] : List (Nat × Nat))[i]?) [.val (.int .i64 0), .val (.int .i64 0), .val (.int .i64 0), .val (.int .i64 0), .val (.int .i64 0), .val (.int .i64 0), .val (.int .i64 0)] ps).map .agg := build_of Try.underlying25 inf25 (by simp only [List.map_cons, List.map_nil, sz2, sz3, sz23, Option.map_some]) ps
@[go_sem] theorem eq25 (x0 y0 : Int) (x1 y1 : Int) (x2 y2 : Int) (x3 y3 : Int) (x4 y4 : Int) (x5 y5 : Int) (x6 y6 : Int) : aggEq Try.prog 25 (.agg #[.int .i64 x0, .int .i64 x1, .int .i64 x2, .int .i64 x3, .int .i64 x4, .int .i64 x5, .int .i64 x6]) (.agg #[.int .i64 y0, .int .i64 y1, .int .i64 y2, .int .i64 y3, .int .i64 y4, .int .i64 y5, .int .i64 y6]) = some (x0 == y0 && (x1 == y1 && (x2 == y2 && ((x3 == y3 && (x4 == y4 && true)) && (x5 == y5 && (x6 == y6 && true)))))) := by kernel_rfl
@[go_sem high] theorem be25 {a b : Operand} (x0 y0 : Int) (x1 y1 : Int) (x2 y2 : Int) (x3 y3 : Int) (x4 y4 : Int) (x5 y5 : Int) (x6 y6 : Int) : binA Try.prog .eql 25 a b (.agg [.val (.int .i64 x0), .val (.int .i64 x1), .val (.int .i64 x2), .val (.int .i64 x3), .val (.int .i64 x4), .val (.int .i64 x5), .val (.int .i64 x6)]) (.agg [.val (.int .i64 y0), .val (.int .i64 y1), .val (.int .i64 y2), .val (.int .i64 y3), .val (.int .i64 y4), .val (.int .i64 y5), .val (.int .i64 y6)]) = some (.val (.bool (x0 == y0 && (x1 == y1 && (x2 == y2 && ((x3 == y3 && (x4 == y4 && true)) && (x5 == y5 && (x6 == y6 && true)))))))) := (bin_agg Try.underlying25 rfl rfl (eq25 ..)).1
@[go_sem high] theorem bq25 {a b : Operand} (x0 y0 : Int) (x1 y1 : Int) (x2 y2 : Int) (x3 y3 : Int) (x4 y4 : Int) (x5 y5 : Int) (x6 y6 : Int) : binA Try.prog .neq 25 a b (.agg [.val (.int .i64 x0), .val (.int .i64 x1), .val (.int .i64 x2), .val (.int .i64 x3), .val (.int .i64 x4), .val (.int .i64 x5), .val (.int .i64 x6)]) (.agg [.val (.int .i64 y0), .val (.int .i64 y1), .val (.int .i64 y2), .val (.int .i64 y3), .val (.int .i64 y4), .val (.int .i64 y5), .val (.int .i64 y6)]) = some (.val (.bool (!((x0 == y0 && (x1 == y1 && (x2 == y2 && ((x3 == y3 && (x4 == y4 && true)) && (x5 == y5 && (x6 == y6 && true)))))))))) := (bin_agg Try.underlying25 rfl rfl (eq25 ..)).2
@[go_sem] theorem el26 : elemA Try.prog 26 = .sl 39 4 := elem_of Try.underlying26 sz39
@[go_sem] theorem ap26 (s x : AV) (H : Hp) : appendA Try.prog 26 26 s x H = appendB 39 4 32 s x H := append_of Try.underlying26 inf39 rfl (by decide) (by decide) s x H
@[go_sem] theorem mk26 (n : Int) : makeA Try.prog 26 n = if 0 ≤ n ∧ (32 : Nat) * n ≤ 281474976710656 ∧ n ≤ 9223372036854775807 then some (List.replicate n.toNat [.val (.int .i64 0), .val (.int .i64 0), .val (.int .i64 0), .val (.int .i64 0)], 39) else none := make_of Try.underlying26 inf39 rfl (by decide) n
@[go_sem] theorem lit26 (len : Nat) (ps : List (Nat × AV)) : litA Try.prog 26 len ps = if len * 4 ≤ 16777216 then (fillE 4 (List.replicate len [.val (.int .i64 0), .val (.int .i64 0), .val (.int .i64 0), .val (.int .i64 0)]) ps).map fun es => (es, 39) else none := lit_of Try.underlying26 inf39 rfl (by decide) len ps
@[go_sem] theorem sl26 (x : AV) (lo hi mx : Option AV) : sliceA Try.prog 26 x lo hi mx = sliceB 4 x lo hi mx := slice_of Try.underlying26 sz39 x lo hi mx
@[go_sem] theorem el33 : elemA Try.prog 33 = .sl 23 2 := elem_of Try.underlying33 sz23
@[go_sem] theorem ap33 (s x : AV) (H : Hp) : appendA Try.prog 33 33 s x H = appendB 23 2 16 s x H := append_of Try.underlying33 inf23 rfl (by decide) (by decide) s x H
@[go_sem] theorem mk33 (n : Int) : makeA Try.prog 33 n = if 0 ≤ n ∧ (16 : Nat) * n ≤ 281474976710656 ∧ n ≤ 9223372036854775807 then some (List.replicate n.toNat [.val (.int .i64 0), .val (.int .i64 0)], 23) else none := make_of Try.underlying33 inf23 rfl (by decide) n
@[go_sem] theorem lit33 (len : Nat) (ps : List (Nat × AV)) : litA Try.prog 33 len ps = if len * 2 ≤ 16777216 then (fillE 2 (List.replicate len [.val (.int .i64 0), .val (.int .i64 0)]) ps).map fun es => (es, 23) else none := lit_of Try.underlying33 inf23 rfl (by decide) len ps
@[go_sem] theorem sl33 (x : AV) (lo hi mx : Option AV) : sliceA Try.prog 33 x lo hi mx = sliceB 2 x lo hi mx := slice_of Try.underlying33 sz23 x lo hi mx
@[go_sem] theorem fo36_0 : fieldOff Try.prog 36 0 = some 0 := field_off Try.underlying36 rfl sz3 (by decide)
@[go_sem] theorem ft36_0 : fieldTO Try.prog 36 0 = some (3, 0) := field_to Try.underlying36 rfl
@[go_sem] theorem fo36_1 : fieldOff Try.prog 36 1 = some 1 := field_off Try.underlying36 rfl sz3 (by decide)
@[go_sem] theorem ft36_1 : fieldTO Try.prog 36 1 = some (3, 1) := field_to Try.underlying36 rfl
@[go_sem] theorem bd36 (ps : List (Nat × AV)) : buildA Try.prog 36 ps = (fillA (fun i => ([(0, 1), (1, 1)] : List (Nat × Nat))[i]?) [.val (.int .i64 0), .val (.int .i64 0)] ps).map .agg := build_of Try.underlying36 inf36 (by simp only [List.map_cons, List.map_nil, sz3, Option.map_some]) ps
@[go_sem] theorem eq36 (x0 y0 : Int) (x1 y1 : Int) : aggEq Try.prog 36 (.agg #[.int .i64 x0, .int .i64 x1]) (.agg #[.int .i64 y0, .int .i64 y1]) = some (x0 == y0 && (x1 == y1 && true)) := by kernel_rfl
@[go_sem high] theorem be36 {a b : Operand} (x0 y0 : Int) (x1 y1 : Int) : binA Try.prog .eql 36 a b (.agg [.val (.int .i64 x0), .val (.int .i64 x1)]) (.agg [.val (.int .i64 y0), .val (.int .i64 y1)]) = some (.val (.bool (x0 == y0 && (x1 == y1 && true)))) := (bin_agg Try.underlying36 rfl rfl (eq36 ..)).1
@[go_sem high] theorem bq36 {a b : Operand} (x0 y0 : Int) (x1 y1 : Int) : binA Try.prog .neq 36 a b (.agg [.val (.int .i64 x0), .val (.int .i64 x1)]) (.agg [.val (.int .i64 y0), .val (.int .i64 y1)]) = some (.val (.bool (!((x0 == y0 && (x1 == y1 && true)))))) := (bin_agg Try.underlying36 rfl rfl (eq36 ..)).2
@[go_sem] theorem fo37_0 : fieldOff Try.prog 37 0 = some 0 := field_off Try.underlying37 rfl sz3 (by decide)
@[go_sem] theorem ft37_0 : fieldTO Try.prog 37 0 = some (3, 0) := field_to Try.underlying37 rfl
@[go_sem] theorem fo37_1 : fieldOff Try.prog 37 1 = some 1 := field_off Try.underlying37 rfl sz3 (by decide)
@[go_sem] theorem ft37_1 : fieldTO Try.prog 37 1 = some (3, 1) := field_to Try.underlying37 rfl
@[go_sem] theorem bd37 (ps : List (Nat × AV)) : buildA Try.prog 37 ps = (fillA (fun i => ([(0, 1), (1, 1)] : List (Nat × Nat))[i]?) [.val (.int .i64 0), .val (.int .i64 0)] ps).map .agg := build_of Try.underlying37 inf37 (by simp only [List.map_cons, List.map_nil, sz3, Option.map_some]) ps
@[go_sem] theorem eq37 (x0 y0 : Int) (x1 y1 : Int) : aggEq Try.prog 37 (.agg #[.int .i64 x0, .int .i64 x1]) (.agg #[.int .i64 y0, .int .i64 y1]) = some (x0 == y0 && (x1 == y1 && true)) := by kernel_rfl
@[go_sem high] theorem be37 {a b : Operand} (x0 y0 : Int) (x1 y1 : Int) : binA Try.prog .eql 37 a b (.agg [.val (.int .i64 x0), .val (.int .i64 x1)]) (.agg [.val (.int .i64 y0), .val (.int .i64 y1)]) = some (.val (.bool (x0 == y0 && (x1 == y1 && true)))) := (bin_agg Try.underlying37 rfl rfl (eq37 ..)).1
@[go_sem high] theorem bq37 {a b : Operand} (x0 y0 : Int) (x1 y1 : Int) : binA Try.prog .neq 37 a b (.agg [.val (.int .i64 x0), .val (.int .i64 x1)]) (.agg [.val (.int .i64 y0), .val (.int .i64 y1)]) = some (.val (.bool (!((x0 == y0 && (x1 == y1 && true)))))) := (bin_agg Try.underlying37 rfl rfl (eq37 ..)).2
@[go_sem] theorem fo38_0 : fieldOff Try.prog 38 0 = some 0 := field_off Try.underlying38 rfl sz37 (by decide)
@[go_sem] theorem ft38_0 : fieldTO Try.prog 38 0 = some (37, 0) := field_to Try.underlying38 rfl
@[go_sem] theorem fo38_1 : fieldOff Try.prog 38 1 = some 2 := field_off Try.underlying38 rfl sz23 (by decide)
@[go_sem] theorem ft38_1 : fieldTO Try.prog 38 1 = some (23, 2) := field_to Try.underlying38 rfl
@[go_sem] theorem bd38 (ps : List (Nat × AV)) : buildA Try.prog 38 ps = (fillA (fun i => ([(0, 2), (2, 2)] : List (Nat × Nat))[i]?) [.val (.int .i64 0), .val (.int .i64 0), .val (.int .i64 0), .val (.int .i64 0)] ps).map .agg := build_of Try.underlying38 inf38 (by simp only [List.map_cons, List.map_nil, sz23, sz37, Option.map_some]) ps
@[go_sem] theorem eq38 (x0 y0 : Int) (x1 y1 : Int) (x2 y2 : Int) (x3 y3 : Int) : aggEq Try.prog 38 (.agg #[.int .i64 x0, .int .i64 x1, .int .i64 x2, .int .i64 x3]) (.agg #[.int .i64 y0, .int .i64 y1, .int .i64 y2, .int .i64 y3]) = some ((x0 == y0 && (x1 == y1 && true)) && ((x2 == y2 && (x3 == y3 && true)) && true)) := by kernel_rfl
@[go_sem high] theorem be38 {a b : Operand} (x0 y0 : Int) (x1 y1 : Int) (x2 y2 : Int) (x3 y3 : Int) : binA Try.prog .eql 38 a b (.agg [.val (.int .i64 x0), .val (.int .i64 x1), .val (.int .i64 x2), .val (.int .i64 x3)]) (.agg [.val (.int .i64 y0), .val (.int .i64 y1), .val (.int .i64 y2), .val (.int .i64 y3)]) = some (.val (.bool ((x0 == y0 && (x1 == y1 && true)) && ((x2 == y2 && (x3 == y3 && true)) && true)))) := (bin_agg Try.underlying38 rfl rfl (eq38 ..)).1
@[go_sem high] theorem bq38 {a b : Operand} (x0 y0 : Int) (x1 y1 : Int) (x2 y2 : Int) (x3 y3 : Int) : binA Try.prog .neq 38 a b (.agg [.val (.int .i64 x0), .val (.int .i64 x1), .val (.int .i64 x2), .val (.int .i64 x3)]) (.agg [.val (.int .i64 y0), .val (.int .i64 y1), .val (.int .i64 y2), .val (.int .i64 y3)]) = some (.val (.bool (!(((x0 == y0 && (x1 == y1 && true)) && ((x2 == y2 && (x3 == y3 && true)) && true)))))) := (bin_agg Try.underlying38 rfl rfl (eq38 ..)).2
@[go_sem] theorem fo39_0 : fieldOff Try.prog 39 0 = some 0 := field_off Try.underlying39 rfl sz37 (by decide)
@[go_sem] theorem ft39_0 : fieldTO Try.prog 39 0 = some (37, 0) := field_to Try.underlying39 rfl
@[go_sem] theorem fo39_1 : fieldOff Try.prog 39 1 = some 2 := field_off Try.underlying39 rfl sz23 (by decide)
@[go_sem] theorem ft39_1 : fieldTO Try.prog 39 1 = some (23, 2) := field_to Try.underlying39 rfl
@[go_sem] theorem bd39 (ps : List (Nat × AV)) : buildA Try.prog 39 ps = (fillA (fun i => ([(0, 2), (2, 2)] : List (Nat × Nat))[i]?) [.val (.int .i64 0), .val (.int .i64 0), .val (.int .i64 0), .val (.int .i64 0)] ps).map .agg := build_of Try.underlying39 inf39 (by simp only [List.map_cons, List.map_nil, sz23, sz37, Option.map_some]) ps
@[go_sem] theorem eq39 (x0 y0 : Int) (x1 y1 : Int) (x2 y2 : Int) (x3 y3 : Int) : aggEq Try.prog 39 (.agg #[.int .i64 x0, .int .i64 x1, .int .i64 x2, .int .i64 x3]) (.agg #[.int .i64 y0, .int .i64 y1, .int .i64 y2, .int .i64 y3]) = some ((x0 == y0 && (x1 == y1 && true)) && ((x2 == y2 && (x3 == y3 && true)) && true)) := by kernel_rfl
@[go_sem high] theorem be39 {a b : Operand} (x0 y0 : Int) (x1 y1 : Int) (x2 y2 : Int) (x3 y3 : Int) : binA Try.prog .eql 39 a b (.agg [.val (.int .i64 x0), .val (.int .i64 x1), .val (.int .i64 x2), .val (.int .i64 x3)]) (.agg [.val (.int .i64 y0), .val (.int .i64 y1), .val (.int .i64 y2), .val (.int .i64 y3)]) = some (.val (.bool ((x0 == y0 && (x1 == y1 && true)) && ((x2 == y2 && (x3 == y3 && true)) && true)))) := (bin_agg Try.underlying39 rfl rfl (eq39 ..)).1
@[go_sem high] theorem bq39 {a b : Operand} (x0 y0 : Int) (x1 y1 : Int) (x2 y2 : Int) (x3 y3 : Int) : binA Try.prog .neq 39 a b (.agg [.val (.int .i64 x0), .val (.int .i64 x1), .val (.int .i64 x2), .val (.int .i64 x3)]) (.agg [.val (.int .i64 y0), .val (.int .i64 y1), .val (.int .i64 y2), .val (.int .i64 y3)]) = some (.val (.bool (!(((x0 == y0 && (x1 == y1 && true)) && ((x2 == y2 && (x3 == y3 && true)) && true)))))) := (bin_agg Try.underlying39 rfl rfl (eq39 ..)).2
@[go_sem] theorem el49 : elemA Try.prog 49 = .sl 2 1 := elem_of Try.underlying49 sz2
@[go_sem] theorem ap49 (s x : AV) (H : Hp) : appendA Try.prog 49 49 s x H = appendB 2 1 8 s x H := append_of Try.underlying49 inf2 rfl (by decide) (by decide) s x H
@[go_sem] theorem mk49 (n : Int) : makeA Try.prog 49 n = if 0 ≤ n ∧ (8 : Nat) * n ≤ 281474976710656 ∧ n ≤ 9223372036854775807 then some (List.replicate n.toNat [.val (.int .i64 0)], 2) else none := make_of Try.underlying49 inf2 rfl (by decide) n
@[go_sem] theorem lit49 (len : Nat) (ps : List (Nat × AV)) : litA Try.prog 49 len ps = if len * 1 ≤ 16777216 then (fillE 1 (List.replicate len [.val (.int .i64 0)]) ps).map fun es => (es, 2) else none := lit_of Try.underlying49 inf2 rfl (by decide) len ps
@[go_sem] theorem sl49 (x : AV) (lo hi mx : Option AV) : sliceA Try.prog 49 x lo hi mx = sliceB 1 x lo hi mx := slice_of Try.underlying49 sz2 x lo hi mx
@[go_sem] theorem el58 : elemA Try.prog 58 = .sl 3 1 := elem_of Try.underlying58 sz3
@[go_sem] theorem ap58 (s x : AV) (H : Hp) : appendA Try.prog 58 58 s x H = appendB 3 1 8 s x H := append_of Try.underlying58 inf3 rfl (by decide) (by decide) s x H
@[go_sem] theorem mk58 (n : Int) : makeA Try.prog 58 n = if 0 ≤ n ∧ (8 : Nat) * n ≤ 281474976710656 ∧ n ≤ 9223372036854775807 then some (List.replicate n.toNat [.val (.int .i64 0)], 3) else none := make_of Try.underlying58 inf3 rfl (by decide) n
@[go_sem] theorem lit58 (len : Nat) (ps : List (Nat × AV)) : litA Try.prog 58 len ps = if len * 1 ≤ 16777216 then (fillE 1 (List.replicate len [.val (.int .i64 0)]) ps).map fun es => (es, 3) else none := lit_of Try.underlying58 inf3 rfl (by decide) len ps
@[go_sem] theorem sl58 (x : AV) (lo hi mx : Option AV) : sliceA Try.prog 58 x lo hi mx = sliceB 1 x lo hi mx := slice_of Try.underlying58 sz3 x lo hi mx
@[go_sem] theorem fo63_0 : fieldOff Try.prog 63 0 = some 0 := field_off Try.underlying63 rfl sz58 (by decide)
@[go_sem] theorem ft63_0 : fieldTO Try.prog 63 0 = some (58, 0) := field_to Try.underlying63 rfl
@[go_sem] theorem fo63_1 : fieldOff Try.prog 63 1 = some 1 := field_off Try.underlying63 rfl sz3 (by decide)
@[go_sem] theorem ft63_1 : fieldTO Try.prog 63 1 = some (3, 1) := field_to Try.underlying63 rfl
@[go_sem] theorem fo63_2 : fieldOff Try.prog 63 2 = some 2 := field_off Try.underlying63 rfl sz3 (by decide)
@[go_sem] theorem ft63_2 : fieldTO Try.prog 63 2 = some (3, 2) := field_to Try.underlying63 rfl
@[go_sem] theorem fo63_3 : fieldOff Try.prog 63 3 = some 3 := field_off Try.underlying63 rfl sz33 (by decide)
@[go_sem] theorem ft63_3 : fieldTO Try.prog 63 3 = some (33, 3) := field_to Try.underlying63 rfl
@[go_sem] theorem bd63 (ps : List (Nat × AV)) : buildA Try.prog 63 ps = (fillA (fun i => ([(0, 1), (1, 1), (2, 1), (3, 1)] : List (Nat × Nat))[i]?) [.val (.slice none 0 0), .val (.int .i64 0), .val (.int .i64 0), .val (.slice none 0 0)] ps).map .agg := build_of Try.underlying63 inf63 (by simp only [List.map_cons, List.map_nil, sz3, sz33, sz58, Option.map_some]) ps
@[go_sem] theorem fo64_0 : fieldOff Try.prog 64 0 = some 0 := field_off Try.underlying64 rfl sz58 (by decide)
@[go_sem] theorem ft64_0 : fieldTO Try.prog 64 0 = some (58, 0) := field_to Try.underlying64 rfl
@[go_sem] theorem fo64_1 : fieldOff Try.prog 64 1 = some 1 := field_off Try.underlying64 rfl sz3 (by decide)
@[go_sem] theorem ft64_1 : fieldTO Try.prog 64 1 = some (3, 1) := field_to Try.underlying64 rfl
@[go_sem] theorem fo64_2 : fieldOff Try.prog 64 2 = some 2 := field_off Try.underlying64 rfl sz3 (by decide)
@[go_sem] theorem ft64_2 : fieldTO Try.prog 64 2 = some (3, 2) := field_to Try.underlying64 rfl
@[go_sem] theorem fo64_3 : fieldOff Try.prog 64 3 = some 3 := field_off Try.underlying64 rfl sz33 (by decide)
@[go_sem] theorem ft64_3 : fieldTO Try.prog 64 3 = some (33, 3) := field_to Try.underlying64 rfl
@[go_sem] theorem bd64 (ps : List (Nat × AV)) : buildA Try.prog 64 ps = (fillA (fun i => ([(0, 1), (1, 1), (2, 1), (3, 1)] : List (Nat × Nat))[i]?) [.val (.slice none 0 0), .val (.int .i64 0), .val (.int .i64 0), .val (.slice none 0 0)] ps).map .agg := build_of Try.underlying64 inf64 (by simp only [List.map_cons, List.map_nil, sz3, sz33, sz58, Option.map_some]) ps
@[go_sem] theorem el69 : elemA Try.prog 69 = .sl 112 7 := elem_of Try.underlying69 sz112
@[go_sem] theorem ap69 (s x : AV) (H : Hp) : appendA Try.prog 69 69 s x H = appendB 112 7 72 s x H := append_of Try.underlying69 inf112 rfl (by decide) (by decide) s x H
@[go_sem] theorem mk69 (n : Int) : makeA Try.prog 69 n = if 0 ≤ n ∧ (72 : Nat) * n ≤ 281474976710656 ∧ n ≤ 9223372036854775807 then some (List.replicate n.toNat [.val (.int .i64 0), .val (.int .i64 0), .val (.int .i64 0), .val (.int .i64 0), .val (.int .i64 0), .val (.slice none 0 0), .val (.int .i64 0)], 112) else none := make_of Try.underlying69 inf112 rfl (by decide) n
@[go_sem] theorem lit69 (len : Nat) (ps : List (Nat × AV)) : litA Try.prog 69 len ps = if len * 7 ≤ 16777216 then (fillE 7 (List.replicate len [.val (.int .i64 0), .val (.int .i64 0), .val (.int .i64 0), .val (.int .i64 0), .val (.int .i64 0), .val (.slice none 0 0), .val (.int .i64 0)]) ps).map fun es => (es, 112) else none := lit_of Try.underlying69 inf112 rfl (by decide) len ps
@[go_sem] theorem sl69 (x : AV) (lo hi mx : Option AV) : sliceA Try.prog 69 x lo hi mx = sliceB 7 x lo hi mx := slice_of Try.underlying69 sz112 x lo hi mx
@[go_sem] theorem fo87_0 : fieldOff Try.prog 87 0 = some 0 := field_off Try.underlying87 rfl sz25 (by decide)
@[go_sem] theorem ft87_0 : fieldTO Try.prog 87 0 = some (25, 0) := field_to Try.underlying87 rfl
@[go_sem] theorem fo87_1 : fieldOff Try.prog 87 1 = some 7 := field_off Try.underlying87 rfl sz26 (by decide)
@[go_sem] theorem ft87_1 : fieldTO Try.prog 87 1 = some (26, 7) := field_to Try.underlying87 rfl
@[go_sem] theorem fo87_2 : fieldOff Try.prog 87 2 = some 8 := field_off Try.underlying87 rfl sz33 (by decide)
@[go_sem] theorem ft87_2 : fieldTO Try.prog 87 2 = some (33, 8) := field_to Try.underlying87 rfl
@[go_sem] theorem bd87 (ps : List (Nat × AV)) : buildA Try.prog 87 ps = (fillA (fun i => ([(0, 7), (7, 1), (8, 1)] : List (Nat × Nat))[i]?) [.val (.int .i64 0), .val (.int .i64 0), .val (.int .i64 0), .val (.int .i64 0), .val (.int .i64 0), .val (.int .i64 0), .val (.int .i64 0), .val (.slice none 0 0), .val (.slice none 0 0)] ps).map .agg := build_of Try.underlying87 inf87 (by simp only [List.map_cons, List.map_nil, sz25, sz26, sz33, Option.map_some]) ps
@[go_sem] theorem fo88_0 : fieldOff Try.prog 88 0 = some 0 := field_off Try.underlying88 rfl sz25 (by decide)
@[go_sem] theorem ft88_0 : fieldTO Try.prog 88 0 = some (25, 0) := field_to Try.underlying88 rfl
@[go_sem] theorem fo88_1 : fieldOff Try.prog 88 1 = some 7 := field_off Try.underlying88 rfl sz26 (by decide)
@[go_sem] theorem ft88_1 : fieldTO Try.prog 88 1 = some (26, 7) := field_to Try.underlying88 rfl
@[go_sem] theorem fo88_2 : fieldOff Try.prog 88 2 = some 8 := field_off Try.underlying88 rfl sz33 (by decide)
@[go_sem] theorem ft88_2 : fieldTO Try.prog 88 2 = some (33, 8) := field_to Try.underlying88 rfl
@[go_sem] theorem bd88 (ps : List (Nat × AV)) : buildA Try.prog 88 ps = (fillA (fun i => ([(0, 7), (7, 1), (8, 1)] : List (Nat × Nat))[i]?) [.val (.int .i64 0), .val (.int .i64 0), .val (.int .i64 0), .val (.int .i64 0), .val (.int .i64 0), .val (.int .i64 0), .val (.int .i64 0), .val (.slice none 0 0), .val (.slice none 0 0)] ps).map .agg := build_of Try.underlying88 inf88 (by simp only [List.map_cons, List.map_nil, sz25, sz26, sz33, Option.map_some]) ps
@[go_sem] theorem el110 : elemA Try.prog 110 = .ar 2 2 1 := elem_arr Try.underlying110 sz2 (by decide)
@[go_sem] theorem fo111_0 : fieldOff Try.prog 111 0 = some 0 := field_off Try.underlying111 rfl sz3 (by decide)
@[go_sem] theorem ft111_0 : fieldTO Try.prog 111 0 = some (3, 0) := field_to Try.underlying111 rfl
@[go_sem] theorem fo111_1 : fieldOff Try.prog 111 1 = some 1 := field_off Try.underlying111 rfl sz37 (by decide)
@[go_sem] theorem ft111_1 : fieldTO Try.prog 111 1 = some (37, 1) := field_to Try.underlying111 rfl
@[go_sem] theorem fo111_2 : fieldOff Try.prog 111 2 = some 3 := field_off Try.underlying111 rfl sz37 (by decide)
@[go_sem] theorem ft111_2 : fieldTO Try.prog 111 2 = some (37, 3) := field_to Try.underlying111 rfl
@[go_sem] theorem fo111_3 : fieldOff Try.prog 111 3 = some 5 := field_off Try.underlying111 rfl sz58 (by decide)
@[go_sem] theorem ft111_3 : fieldTO Try.prog 111 3 = some (58, 5) := field_to Try.underlying111 rfl
@[go_sem] theorem fo111_4 : fieldOff Try.prog 111 4 = some 6 := field_off Try.underlying111 rfl sz2 (by decide)
@[go_sem] theorem ft111_4 : fieldTO Try.prog 111 4 = some (2, 6) := field_to Try.underlying111 rfl
@[go_sem] theorem bd111 (ps : List (Nat × AV)) : buildA Try.prog 111 ps = (fillA (fun i => ([(0, 1), (1, 2), (3, 2), (5, 1), (6, 1)] : List (Nat × Nat))[i]?) [.val (.int .i64 0), .val (.int .i64 0), .val (.int .i64 0), .val (.int .i64 0), .val (.int .i64 0), .val (.slice none 0 0), .val (.int .i64 0)] ps).map .agg := build_of Try.underlying111 inf111 (by simp only [List.map_cons, List.map_nil, sz2, sz3, sz37, sz58, Option.map_some]) ps
@[go_sem] theorem fo112_0 : fieldOff Try.prog 112 0 = some 0 := field_off Try.underlying112 rfl sz3 (by decide)
@[go_sem] theorem ft112_0 : fieldTO Try.prog 112 0 = some (3, 0) := field_to Try.underlying112 rfl
@[go_sem] theorem fo112_1 : fieldOff Try.prog 112 1 = some 1 := field_off Try.underlying112 rfl sz37 (by decide)
@[go_sem] theorem ft112_1 : fieldTO Try.prog 112 1 = some (37, 1) := field_to Try.underlying112 rfl
@[go_sem] theorem fo112_2 : fieldOff Try.prog 112 2 = some 3 := field_off Try.underlying112 rfl sz37 (by decide)
@[go_sem] theorem ft112_2 : fieldTO Try.prog 112 2 = some (37, 3) := field_to Try.underlying112 rfl
@[go_sem] theorem fo112_3 : fieldOff Try.prog 112 3 = some 5 := field_off Try.underlying112 rfl sz58 (by decide)
@[go_sem] theorem ft112_3 : fieldTO Try.prog 112 3 = some (58, 5) := field_to Try.underlying112 rfl
@[go_sem] theorem fo112_4 : fieldOff Try.prog 112 4 = some 6 := field_off Try.underlying112 rfl sz2 (by decide)
@[go_sem] theorem ft112_4 : fieldTO Try.prog 112 4 = some (2, 6) := field_to Try.underlying112 rfl
@[go_sem] theorem bd112 (ps : List (Nat × AV)) : buildA Try.prog 112 ps = (fillA (fun i => ([(0, 1), (1, 2), (3, 2), (5, 1), (6, 1)] : List (Nat × Nat))[i]?) [.val (.int .i64 0), .val (.int .i64 0), .val (.int .i64 0), .val (.int .i64 0), .val (.int .i64 0), .val (.slice none 0 0), .val (.int .i64 0)] ps).map .agg := build_of Try.underlying112 inf112 (by simp only [List.map_cons, List.map_nil, sz2, sz3, sz37, sz58, Option.map_some]) ps
@[go_sem] theorem el116 : elemA Try.prog 116 = .sl 65 1 := elem_of Try.underlying116 sz65
@[go_sem] theorem ap116 (s x : AV) (H : Hp) : appendA Try.prog 116 116 s x H = appendB 65 1 8 s x H := append_of Try.underlying116 inf65 rfl (by decide) (by decide) s x H
@[go_sem] theorem mk116 (n : Int) : makeA Try.prog 116 n = if 0 ≤ n ∧ (8 : Nat) * n ≤ 281474976710656 ∧ n ≤ 9223372036854775807 then some (List.replicate n.toNat [.val (.int .i64 0)], 65) else none := make_of Try.underlying116 inf65 rfl (by decide) n
@[go_sem] theorem lit116 (len : Nat) (ps : List (Nat × AV)) : litA Try.prog 116 len ps = if len * 1 ≤ 16777216 then (fillE 1 (List.replicate len [.val (.int .i64 0)]) ps).map fun es => (es, 65) else none := lit_of Try.underlying116 inf65 rfl (by decide) len ps
@[go_sem] theorem sl116 (x : AV) (lo hi mx : Option AV) : sliceA Try.prog 116 x lo hi mx = sliceB 1 x lo hi mx := slice_of Try.underlying116 sz65 x lo hi mx
@[go_sem] theorem el120 : elemA Try.prog 120 = .ar 7 119 1 := elem_arr Try.underlying120 sz119 (by decide)
@[go_sem] theorem el127 : elemA Try.prog 127 = .sl 37 2 := elem_of Try.underlying127 sz37
@[go_sem] theorem ap127 (s x : AV) (H : Hp) : appendA Try.prog 127 127 s x H = appendB 37 2 16 s x H := append_of Try.underlying127 inf37 rfl (by decide) (by decide) s x H
@[go_sem] theorem mk127 (n : Int) : makeA Try.prog 127 n = if 0 ≤ n ∧ (16 : Nat) * n ≤ 281474976710656 ∧ n ≤ 9223372036854775807 then some (List.replicate n.toNat [.val (.int .i64 0), .val (.int .i64 0)], 37) else none := make_of Try.underlying127 inf37 rfl (by decide) n
@[go_sem] theorem lit127 (len : Nat) (ps : List (Nat × AV)) : litA Try.prog 127 len ps = if len * 2 ≤ 16777216 then (fillE 2 (List.replicate len [.val (.int .i64 0), .val (.int .i64 0)]) ps).map fun es => (es, 37) else none := lit_of Try.underlying127 inf37 rfl (by decide) len ps
@[go_sem] theorem sl127 (x : AV) (lo hi mx : Option AV) : sliceA Try.prog 127 x lo hi mx = sliceB 2 x lo hi mx := slice_of Try.underlying127 sz37 x lo hi mx
@[go_sem] theorem ft137_0 : fieldTO Try.prog 137 0 = some (136, 0) := field_to Try.underlying137 rfl
@[go_sem] theorem bd137 (ps : List (Nat × AV)) : buildA Try.prog 137 ps = (fillA (fun i => ([(0, 0)] : List (Nat × Nat))[i]?) [] ps).map .agg := build_of Try.underlying137 inf137 (by simp only [List.map_cons, List.map_nil, sz136, Option.map_some]) ps
@[go_sem] theorem ft138_0 : fieldTO Try.prog 138 0 = some (136, 0) := field_to Try.underlying138 rfl
@[go_sem] theorem bd138 (ps : List (Nat × AV)) : buildA Try.prog 138 ps = (fillA (fun i => ([(0, 0)] : List (Nat × Nat))[i]?) [] ps).map .agg := build_of Try.underlying138 inf138 (by simp only [List.map_cons, List.map_nil, sz136, Option.map_some]) ps

end Go.Proofs.Ytehagceghnjamaa.Ab
