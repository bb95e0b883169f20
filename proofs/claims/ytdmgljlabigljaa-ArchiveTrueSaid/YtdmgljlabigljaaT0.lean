/- Facts on the types of this seat's program. -/
import Derived.Test.YtdmgljlabigljaaKC
import Derived.Test.YtdmgljlabigljaaProg
namespace Go.Proofs.Ytdmgljlabigljaa.Ab
open Go Go.RowKit Go.Proofs

theorem mixed : Try.prog.follows .mixedOrders = true := by kernel_rfl

theorem bin_agg {t : TypeId} {x y : Operand} {cs ds : List AV} {us vs : Array Value} {r : Bool} {fs : Array Field} (hu : Try.prog.underlying t = some (.struct fs)) (h1 : (AV.agg cs).flat = some (.agg us)) (h2 : (AV.agg ds).flat = some (.agg vs)) (h : aggEq Try.prog t (.agg us) (.agg vs) = some r) :
    binA Try.prog .eql t x y (.agg cs) (.agg ds) = some (.val (.bool r)) ∧ binA Try.prog .neq t x y (.agg cs) (.agg ds) = some (.val (.bool (!r))) := by
  simp [binA, nilKind, nilOf, hu, h1, h2, h]

theorem inf1 : infoA Try.prog 1 = some (some (.nilFunc), 1, 8) := by kernel_rfl
theorem inf2 : infoA Try.prog 2 = some (some (.int .i64 0), 1, 8) := by kernel_rfl
theorem inf3 : infoA Try.prog 3 = some (some (.int .i64 0), 1, 8) := by kernel_rfl
theorem inf4 : infoA Try.prog 4 = some (some (.bool false), 1, 1) := by kernel_rfl
theorem inf5 : infoA Try.prog 5 = some (some (.int .u8 0), 1, 1) := by kernel_rfl
theorem inf9 : infoA Try.prog 9 = some (some (.string ⟨#[]⟩), 1, 16) := by kernel_rfl
theorem inf21 : infoA Try.prog 21 = some (some (.int .i32 0), 1, 4) := by kernel_rfl
theorem inf22 : infoA Try.prog 22 = some (some (.slice none 0 0), 1, 24) := by kernel_rfl
theorem inf23 : infoA Try.prog 23 = some (some (.slice none 0 0), 1, 24) := by kernel_rfl
theorem inf26 : infoA Try.prog 26 = some (some (.pointer none), 1, 8) := by kernel_rfl
theorem inf28 : infoA Try.prog 28 = some (some (.agg #[.int .i64 0, .int .i64 0]), 2, 16) := by kernel_rfl
theorem inf29 : infoA Try.prog 29 = some (some (.agg #[.int .i64 0, .int .i64 0]), 2, 16) := by kernel_rfl
theorem inf30 : infoA Try.prog 30 = some (some (.agg #[.int .i64 0, .int .i64 0, .int .i64 0, .int .i64 0, .int .i64 0, .int .i64 0, .int .i64 0, .int .i64 0, .string ⟨#[]⟩]), 9, 80) := by kernel_rfl
theorem inf31 : infoA Try.prog 31 = some (some (.agg #[.int .i64 0, .int .i64 0, .int .i64 0, .int .i64 0, .int .i64 0, .int .i64 0, .int .i64 0, .int .i64 0, .string ⟨#[]⟩]), 9, 80) := by kernel_rfl
theorem inf32 : infoA Try.prog 32 = some (some (.int .i64 0), 1, 8) := by kernel_rfl
theorem inf37 : infoA Try.prog 37 = some (some (.agg #[.int .i64 0, .int .i64 0, .int .i64 0, .int .i64 0, .int .i64 0, .int .i64 0]), 6, 48) := by kernel_rfl
theorem inf38 : infoA Try.prog 38 = some (some (.agg #[.int .i64 0, .int .i64 0, .int .i64 0, .int .i64 0, .int .i64 0, .int .i64 0]), 6, 48) := by kernel_rfl
theorem inf39 : infoA Try.prog 39 = some (some (.int .u32 0), 1, 4) := by kernel_rfl
theorem inf42 : infoA Try.prog 42 = some (some (.int .i64 0), 1, 8) := by kernel_rfl
theorem inf48 : infoA Try.prog 48 = some (some (.agg #[.string ⟨#[]⟩, .int .i64 0, .int .i64 0]), 3, 32) := by kernel_rfl
theorem inf49 : infoA Try.prog 49 = some (some (.agg #[.string ⟨#[]⟩, .int .i64 0, .int .i64 0]), 3, 32) := by kernel_rfl
theorem inf55 : infoA Try.prog 55 = some (some (.slice none 0 0), 1, 24) := by kernel_rfl
theorem inf56 : infoA Try.prog 56 = some (some (.map none), 1, 8) := by kernel_rfl
theorem inf57 : infoA Try.prog 57 = some (some (.agg #[.slice none 0 0, .map none]), 2, 32) := by kernel_rfl
theorem inf58 : infoA Try.prog 58 = some (some (.agg #[.slice none 0 0, .map none]), 2, 32) := by kernel_rfl
theorem inf60 : infoA Try.prog 60 = some (some (.nilFunc), 1, 8) := by kernel_rfl
theorem inf61 : infoA Try.prog 61 = some (some (.nilFunc), 1, 8) := by kernel_rfl
theorem inf65 : infoA Try.prog 65 = some (some (.pointer none), 1, 8) := by kernel_rfl
theorem inf68 : infoA Try.prog 68 = some (some (.nilFunc), 1, 8) := by kernel_rfl
theorem inf69 : infoA Try.prog 69 = some (some (.agg #[.slice none 0 0, .int .i64 0, .int .i64 0, .nilFunc]), 4, 48) := by kernel_rfl
theorem inf70 : infoA Try.prog 70 = some (some (.agg #[.slice none 0 0, .int .i64 0, .int .i64 0, .nilFunc]), 4, 48) := by kernel_rfl
theorem inf72 : infoA Try.prog 72 = some (some (.map none), 1, 8) := by kernel_rfl
theorem inf76 : infoA Try.prog 76 = some (some (.agg #[.int .i64 0, .int .i64 0, .int .i64 0]), 3, 24) := by kernel_rfl
theorem inf77 : infoA Try.prog 77 = some (some (.agg #[.int .i64 0, .int .i64 0, .int .i64 0]), 3, 24) := by kernel_rfl
theorem inf79 : infoA Try.prog 79 = some (some (.slice none 0 0), 1, 24) := by kernel_rfl
theorem inf81 : infoA Try.prog 81 = some (some (.nilFunc), 1, 8) := by kernel_rfl
theorem inf83 : infoA Try.prog 83 = some (some (.slice none 0 0), 1, 24) := by kernel_rfl
theorem inf88 : infoA Try.prog 88 = some (some (.nilFunc), 1, 8) := by kernel_rfl
theorem inf90 : infoA Try.prog 90 = some (some (.nilFunc), 1, 8) := by kernel_rfl
theorem inf95 : infoA Try.prog 95 = some (some (.int .u64 0), 1, 8) := by kernel_rfl
theorem inf96 : infoA Try.prog 96 = some (some (.slice none 0 0), 1, 24) := by kernel_rfl
theorem inf99 : infoA Try.prog 99 = some (some (.slice none 0 0), 1, 24) := by kernel_rfl
theorem inf101 : infoA Try.prog 101 = some (some (.int .i64 0), 1, 8) := by kernel_rfl
theorem inf110 : infoA Try.prog 110 = some (some (.int .u64 0), 1, 8) := by kernel_rfl
theorem inf112 : infoA Try.prog 112 = some (some (.int .u64 0), 1, 8) := by kernel_rfl
theorem inf116 : infoA Try.prog 116 = some (some (.pointer none), 1, 8) := by kernel_rfl
theorem inf118 : infoA Try.prog 118 = some (some (.pointer none), 1, 8) := by kernel_rfl
@[go_sem] theorem sz1 : sizeA Try.prog 1 = some 1 := size_of inf1
@[go_sem] theorem zr1 : zeroA Try.prog 1 = some [.val (.nilFunc)] := zero_of inf1
@[go_sem] theorem ld1 (cs : List AV) (off : Nat) : loadA Try.prog 1 cs off = cs[off]? := load_one Try.underlying1 rfl inf1 cs off
attribute [go_sem] Try.underlying1
@[go_sem] theorem sz2 : sizeA Try.prog 2 = some 1 := size_of inf2
@[go_sem] theorem zr2 : zeroA Try.prog 2 = some [.val (.int .i64 0)] := zero_of inf2
@[go_sem] theorem ld2 (cs : List AV) (off : Nat) : loadA Try.prog 2 cs off = cs[off]? := load_one Try.underlying2 rfl inf2 cs off
attribute [go_sem] Try.underlying2
@[go_sem] theorem sz3 : sizeA Try.prog 3 = some 1 := size_of inf3
@[go_sem] theorem zr3 : zeroA Try.prog 3 = some [.val (.int .i64 0)] := zero_of inf3
@[go_sem] theorem ld3 (cs : List AV) (off : Nat) : loadA Try.prog 3 cs off = cs[off]? := load_one Try.underlying3 rfl inf3 cs off
attribute [go_sem] Try.underlying3
@[go_sem] theorem sz4 : sizeA Try.prog 4 = some 1 := size_of inf4
@[go_sem] theorem zr4 : zeroA Try.prog 4 = some [.val (.bool false)] := zero_of inf4
@[go_sem] theorem ld4 (cs : List AV) (off : Nat) : loadA Try.prog 4 cs off = cs[off]? := load_one Try.underlying4 rfl inf4 cs off
attribute [go_sem] Try.underlying4
@[go_sem] theorem sz5 : sizeA Try.prog 5 = some 1 := size_of inf5
@[go_sem] theorem zr5 : zeroA Try.prog 5 = some [.val (.int .u8 0)] := zero_of inf5
@[go_sem] theorem ld5 (cs : List AV) (off : Nat) : loadA Try.prog 5 cs off = cs[off]? := load_one Try.underlying5 rfl inf5 cs off
attribute [go_sem] Try.underlying5
@[go_sem] theorem sz9 : sizeA Try.prog 9 = some 1 := size_of inf9
@[go_sem] theorem zr9 : zeroA Try.prog 9 = some [.val (.string ⟨#[]⟩)] := zero_of inf9
@[go_sem] theorem ld9 (cs : List AV) (off : Nat) : loadA Try.prog 9 cs off = cs[off]? := load_one Try.underlying9 rfl inf9 cs off
attribute [go_sem] Try.underlying9
@[go_sem] theorem sz21 : sizeA Try.prog 21 = some 1 := size_of inf21
@[go_sem] theorem zr21 : zeroA Try.prog 21 = some [.val (.int .i32 0)] := zero_of inf21
@[go_sem] theorem ld21 (cs : List AV) (off : Nat) : loadA Try.prog 21 cs off = cs[off]? := load_one Try.underlying21 rfl inf21 cs off
attribute [go_sem] Try.underlying21
@[go_sem] theorem sz22 : sizeA Try.prog 22 = some 1 := size_of inf22
@[go_sem] theorem zr22 : zeroA Try.prog 22 = some [.val (.slice none 0 0)] := zero_of inf22
@[go_sem] theorem ld22 (cs : List AV) (off : Nat) : loadA Try.prog 22 cs off = cs[off]? := load_one Try.underlying22 rfl inf22 cs off
attribute [go_sem] Try.underlying22
@[go_sem] theorem sz23 : sizeA Try.prog 23 = some 1 := size_of inf23
@[go_sem] theorem zr23 : zeroA Try.prog 23 = some [.val (.slice none 0 0)] := zero_of inf23
@[go_sem] theorem ld23 (cs : List AV) (off : Nat) : loadA Try.prog 23 cs off = cs[off]? := load_one Try.underlying23 rfl inf23 cs off
attribute [go_sem] Try.underlying23
@[go_sem] theorem sz26 : sizeA Try.prog 26 = some 1 := size_of inf26
@[go_sem] theorem zr26 : zeroA Try.prog 26 = some [.val (.pointer none)] := zero_of inf26
@[go_sem] theorem ld26 (cs : List AV) (off : Nat) : loadA Try.prog 26 cs off = cs[off]? := load_one Try.underlying26 rfl inf26 cs off
attribute [go_sem] Try.underlying26
@[go_sem] theorem sz28 : sizeA Try.prog 28 = some 2 := size_of inf28
@[go_sem] theorem zr28 : zeroA Try.prog 28 = some [.val (.int .i64 0), .val (.int .i64 0)] := zero_of inf28
@[go_sem] theorem ld28 (cs : List AV) (off : Nat) : loadA Try.prog 28 cs off = if off + 2 ≤ cs.length then some (.agg ((cs.drop off).take 2)) else none := load_agg Try.underlying28 rfl inf28 cs off
@[go_sem] theorem sz29 : sizeA Try.prog 29 = some 2 := size_of inf29
@[go_sem] theorem zr29 : zeroA Try.prog 29 = some [.val (.int .i64 0), .val (.int .i64 0)] := zero_of inf29
@[go_sem] theorem ld29 (cs : List AV) (off : Nat) : loadA Try.prog 29 cs off = if off + 2 ≤ cs.length then some (.agg ((cs.drop off).take 2)) else none := load_agg Try.underlying29 rfl inf29 cs off
@[go_sem] theorem sz30 : sizeA Try.prog 30 = some 9 := size_of inf30
@[go_sem] theorem zr30 : zeroA Try.prog 30 = some [.val (.int .i64 0), .val (.int .i64 0), .val (.int .i64 0), .val (.int .i64 0), .val (.int .i64 0), .val (.int .i64 0), .val (.int .i64 0), .val (.int .i64 0), .val (.string ⟨#[]⟩)] := zero_of inf30
@[go_sem] theorem ld30 (cs : List AV) (off : Nat) : loadA Try.prog 30 cs off = if off + 9 ≤ cs.length then some (.agg ((cs.drop off).take 9)) else none := load_agg Try.underlying30 rfl inf30 cs off
@[go_sem] theorem sz31 : sizeA Try.prog 31 = some 9 := size_of inf31
@[go_sem] theorem zr31 : zeroA Try.prog 31 = some [.val (.int .i64 0), .val (.int .i64 0), .val (.int .i64 0), .val (.int .i64 0), .val (.int .i64 0), .val (.int .i64 0), .val (.int .i64 0), .val (.int .i64 0), .val (.string ⟨#[]⟩)] := zero_of inf31
@[go_sem] theorem ld31 (cs : List AV) (off : Nat) : loadA Try.prog 31 cs off = if off + 9 ≤ cs.length then some (.agg ((cs.drop off).take 9)) else none := load_agg Try.underlying31 rfl inf31 cs off
@[go_sem] theorem sz32 : sizeA Try.prog 32 = some 1 := size_of inf32
@[go_sem] theorem zr32 : zeroA Try.prog 32 = some [.val (.int .i64 0)] := zero_of inf32
@[go_sem] theorem ld32 (cs : List AV) (off : Nat) : loadA Try.prog 32 cs off = cs[off]? := load_one Try.underlying32 rfl inf32 cs off
attribute [go_sem] Try.underlying32
@[go_sem] theorem sz37 : sizeA Try.prog 37 = some 6 := size_of inf37
@[go_sem] theorem zr37 : zeroA Try.prog 37 = some [.val (.int .i64 0), .val (.int .i64 0), .val (.int .i64 0), .val (.int .i64 0), .val (.int .i64 0), .val (.int .i64 0)] := zero_of inf37
@[go_sem] theorem ld37 (cs : List AV) (off : Nat) : loadA Try.prog 37 cs off = if off + 6 ≤ cs.length then some (.agg ((cs.drop off).take 6)) else none := load_agg Try.underlying37 rfl inf37 cs off
@[go_sem] theorem sz38 : sizeA Try.prog 38 = some 6 := size_of inf38
@[go_sem] theorem zr38 : zeroA Try.prog 38 = some [.val (.int .i64 0), .val (.int .i64 0), .val (.int .i64 0), .val (.int .i64 0), .val (.int .i64 0), .val (.int .i64 0)] := zero_of inf38
@[go_sem] theorem ld38 (cs : List AV) (off : Nat) : loadA Try.prog 38 cs off = if off + 6 ≤ cs.length then some (.agg ((cs.drop off).take 6)) else none := load_agg Try.underlying38 rfl inf38 cs off
@[go_sem] theorem sz39 : sizeA Try.prog 39 = some 1 := size_of inf39
@[go_sem] theorem zr39 : zeroA Try.prog 39 = some [.val (.int .u32 0)] := zero_of inf39
@[go_sem] theorem ld39 (cs : List AV) (off : Nat) : loadA Try.prog 39 cs off = cs[off]? := load_one Try.underlying39 rfl inf39 cs off
attribute [go_sem] Try.underlying39
@[go_sem] theorem sz42 : sizeA Try.prog 42 = some 1 := size_of inf42
@[go_sem] theorem zr42 : zeroA Try.prog 42 = some [.val (.int .i64 0)] := zero_of inf42
@[go_sem] theorem ld42 (cs : List AV) (off : Nat) : loadA Try.prog 42 cs off = cs[off]? := load_one Try.underlying42 rfl inf42 cs off
attribute [go_sem] Try.underlying42
@[go_sem] theorem sz48 : sizeA Try.prog 48 = some 3 := size_of inf48
@[go_sem] theorem zr48 : zeroA Try.prog 48 = some [.val (.string ⟨#[]⟩), .val (.int .i64 0), .val (.int .i64 0)] := zero_of inf48
@[go_sem] theorem ld48 (cs : List AV) (off : Nat) : loadA Try.prog 48 cs off = if off + 3 ≤ cs.length then some (.agg ((cs.drop off).take 3)) else none := load_agg Try.underlying48 rfl inf48 cs off
@[go_sem] theorem sz49 : sizeA Try.prog 49 = some 3 := size_of inf49
@[go_sem] theorem zr49 : zeroA Try.prog 49 = some [.val (.string ⟨#[]⟩), .val (.int .i64 0), .val (.int .i64 0)] := zero_of inf49
@[go_sem] theorem ld49 (cs : List AV) (off : Nat) : loadA Try.prog 49 cs off = if off + 3 ≤ cs.length then some (.agg ((cs.drop off).take 3)) else none := load_agg Try.underlying49 rfl inf49 cs off
@[go_sem] theorem sz55 : sizeA Try.prog 55 = some 1 := size_of inf55
@[go_sem] theorem zr55 : zeroA Try.prog 55 = some [.val (.slice none 0 0)] := zero_of inf55
@[go_sem] theorem ld55 (cs : List AV) (off : Nat) : loadA Try.prog 55 cs off = cs[off]? := load_one Try.underlying55 rfl inf55 cs off
attribute [go_sem] Try.underlying55
@[go_sem] theorem sz56 : sizeA Try.prog 56 = some 1 := size_of inf56
@[go_sem] theorem zr56 : zeroA Try.prog 56 = some [.val (.map none)] := zero_of inf56
@[go_sem] theorem ld56 (cs : List AV) (off : Nat) : loadA Try.prog 56 cs off = cs[off]? := load_one Try.underlying56 rfl inf56 cs off
attribute [go_sem] Try.underlying56
@[go_sem] theorem sz57 : sizeA Try.prog 57 = some 2 := size_of inf57
@[go_sem] theorem zr57 : zeroA Try.prog 57 = some [.val (.slice none 0 0), .val (.map none)] := zero_of inf57
@[go_sem] theorem ld57 (cs : List AV) (off : Nat) : loadA Try.prog 57 cs off = if off + 2 ≤ cs.length then some (.agg ((cs.drop off).take 2)) else none := load_agg Try.underlying57 rfl inf57 cs off
@[go_sem] theorem sz58 : sizeA Try.prog 58 = some 2 := size_of inf58
@[go_sem] theorem zr58 : zeroA Try.prog 58 = some [.val (.slice none 0 0), .val (.map none)] := zero_of inf58
@[go_sem] theorem ld58 (cs : List AV) (off : Nat) : loadA Try.prog 58 cs off = if off + 2 ≤ cs.length then some (.agg ((cs.drop off).take 2)) else none := load_agg Try.underlying58 rfl inf58 cs off
@[go_sem] theorem sz60 : sizeA Try.prog 60 = some 1 := size_of inf60
@[go_sem] theorem zr60 : zeroA Try.prog 60 = some [.val (.nilFunc)] := zero_of inf60
@[go_sem] theorem ld60 (cs : List AV) (off : Nat) : loadA Try.prog 60 cs off = cs[off]? := load_one Try.underlying60 rfl inf60 cs off
attribute [go_sem] Try.underlying60
@[go_sem] theorem sz61 : sizeA Try.prog 61 = some 1 := size_of inf61
@[go_sem] theorem zr61 : zeroA Try.prog 61 = some [.val (.nilFunc)] := zero_of inf61
@[go_sem] theorem ld61 (cs : List AV) (off : Nat) : loadA Try.prog 61 cs off = cs[off]? := load_one Try.underlying61 rfl inf61 cs off
attribute [go_sem] Try.underlying61
@[go_sem] theorem sz65 : sizeA Try.prog 65 = some 1 := size_of inf65
@[go_sem] theorem zr65 : zeroA Try.prog 65 = some [.val (.pointer none)] := zero_of inf65
@[go_sem] theorem ld65 (cs : List AV) (off : Nat) : loadA Try.prog 65 cs off = cs[off]? := load_one Try.underlying65 rfl inf65 cs off
attribute [go_sem] Try.underlying65
@[go_sem] theorem sz68 : sizeA Try.prog 68 = some 1 := size_of inf68
@[go_sem] theorem zr68 : zeroA Try.prog 68 = some [.val (.nilFunc)] := zero_of inf68
@[go_sem] theorem ld68 (cs : List AV) (off : Nat) : loadA Try.prog 68 cs off = cs[off]? := load_one Try.underlying68 rfl inf68 cs off
attribute [go_sem] Try.underlying68
@[go_sem] theorem sz69 : sizeA Try.prog 69 = some 4 := size_of inf69
@[go_sem] theorem zr69 : zeroA Try.prog 69 = some [.val (.slice none 0 0), .val (.int .i64 0), .val (.int .i64 0), .val (.nilFunc)] := zero_of inf69
@[go_sem] theorem ld69 (cs : List AV) (off : Nat) : loadA Try.prog 69 cs off = if off + 4 ≤ cs.length then some (.agg ((cs.drop off).take 4)) else none := load_agg Try.underlying69 rfl inf69 cs off
@[go_sem] theorem sz70 : sizeA Try.prog 70 = some 4 := size_of inf70
@[go_sem] theorem zr70 : zeroA Try.prog 70 = some [.val (.slice none 0 0), .val (.int .i64 0), .val (.int .i64 0), .val (.nilFunc)] := zero_of inf70
@[go_sem] theorem ld70 (cs : List AV) (off : Nat) : loadA Try.prog 70 cs off = if off + 4 ≤ cs.length then some (.agg ((cs.drop off).take 4)) else none := load_agg Try.underlying70 rfl inf70 cs off
@[go_sem] theorem sz72 : sizeA Try.prog 72 = some 1 := size_of inf72
@[go_sem] theorem zr72 : zeroA Try.prog 72 = some [.val (.map none)] := zero_of inf72
@[go_sem] theorem ld72 (cs : List AV) (off : Nat) : loadA Try.prog 72 cs off = cs[off]? := load_one Try.underlying72 rfl inf72 cs off
attribute [go_sem] Try.underlying72
@[go_sem] theorem sz76 : sizeA Try.prog 76 = some 3 := size_of inf76
@[go_sem] theorem zr76 : zeroA Try.prog 76 = some [.val (.int .i64 0), .val (.int .i64 0), .val (.int .i64 0)] := zero_of inf76
@[go_sem] theorem ld76 (cs : List AV) (off : Nat) : loadA Try.prog 76 cs off = if off + 3 ≤ cs.length then some (.agg ((cs.drop off).take 3)) else none := load_agg Try.underlying76 rfl inf76 cs off
@[go_sem] theorem sz77 : sizeA Try.prog 77 = some 3 := size_of inf77
@[go_sem] theorem zr77 : zeroA Try.prog 77 = some [.val (.int .i64 0), .val (.int .i64 0), .val (.int .i64 0)] := zero_of inf77
@[go_sem] theorem ld77 (cs : List AV) (off : Nat) : loadA Try.prog 77 cs off = if off + 3 ≤ cs.length then some (.agg ((cs.drop off).take 3)) else none := load_agg Try.underlying77 rfl inf77 cs off
@[go_sem] theorem sz79 : sizeA Try.prog 79 = some 1 := size_of inf79
@[go_sem] theorem zr79 : zeroA Try.prog 79 = some [.val (.slice none 0 0)] := zero_of inf79
@[go_sem] theorem ld79 (cs : List AV) (off : Nat) : loadA Try.prog 79 cs off = cs[off]? := load_one Try.underlying79 rfl inf79 cs off
attribute [go_sem] Try.underlying79
@[go_sem] theorem sz81 : sizeA Try.prog 81 = some 1 := size_of inf81
@[go_sem] theorem zr81 : zeroA Try.prog 81 = some [.val (.nilFunc)] := zero_of inf81
@[go_sem] theorem ld81 (cs : List AV) (off : Nat) : loadA Try.prog 81 cs off = cs[off]? := load_one Try.underlying81 rfl inf81 cs off
attribute [go_sem] Try.underlying81
@[go_sem] theorem sz83 : sizeA Try.prog 83 = some 1 := size_of inf83
@[go_sem] theorem zr83 : zeroA Try.prog 83 = some [.val (.slice none 0 0)] := zero_of inf83
@[go_sem] theorem ld83 (cs : List AV) (off : Nat) : loadA Try.prog 83 cs off = cs[off]? := load_one Try.underlying83 rfl inf83 cs off
attribute [go_sem] Try.underlying83
@[go_sem] theorem sz88 : sizeA Try.prog 88 = some 1 := size_of inf88
@[go_sem] theorem zr88 : zeroA Try.prog 88 = some [.val (.nilFunc)] := zero_of inf88
@[go_sem] theorem ld88 (cs : List AV) (off : Nat) : loadA Try.prog 88 cs off = cs[off]? := load_one Try.underlying88 rfl inf88 cs off
attribute [go_sem] Try.underlying88
@[go_sem] theorem sz90 : sizeA Try.prog 90 = some 1 := size_of inf90
@[go_sem] theorem zr90 : zeroA Try.prog 90 = some [.val (.nilFunc)] := zero_of inf90
@[go_sem] theorem ld90 (cs : List AV) (off : Nat) : loadA Try.prog 90 cs off = cs[off]? := load_one Try.underlying90 rfl inf90 cs off
attribute [go_sem] Try.underlying90
@[go_sem] theorem sz95 : sizeA Try.prog 95 = some 1 := size_of inf95
@[go_sem] theorem zr95 : zeroA Try.prog 95 = some [.val (.int .u64 0)] := zero_of inf95
@[go_sem] theorem ld95 (cs : List AV) (off : Nat) : loadA Try.prog 95 cs off = cs[off]? := load_one Try.underlying95 rfl inf95 cs off
attribute [go_sem] Try.underlying95
@[go_sem] theorem sz96 : sizeA Try.prog 96 = some 1 := size_of inf96
@[go_sem] theorem zr96 : zeroA Try.prog 96 = some [.val (.slice none 0 0)] := zero_of inf96
@[go_sem] theorem ld96 (cs : List AV) (off : Nat) : loadA Try.prog 96 cs off = cs[off]? := load_one Try.underlying96 rfl inf96 cs off
attribute [go_sem] Try.underlying96
@[go_sem] theorem sz99 : sizeA Try.prog 99 = some 1 := size_of inf99
@[go_sem] theorem zr99 : zeroA Try.prog 99 = some [.val (.slice none 0 0)] := zero_of inf99
@[go_sem] theorem ld99 (cs : List AV) (off : Nat) : loadA Try.prog 99 cs off = cs[off]? := load_one Try.underlying99 rfl inf99 cs off
attribute [go_sem] Try.underlying99
@[go_sem] theorem sz101 : sizeA Try.prog 101 = some 1 := size_of inf101
@[go_sem] theorem zr101 : zeroA Try.prog 101 = some [.val (.int .i64 0)] := zero_of inf101
@[go_sem] theorem ld101 (cs : List AV) (off : Nat) : loadA Try.prog 101 cs off = cs[off]? := load_one Try.underlying101 rfl inf101 cs off
attribute [go_sem] Try.underlying101
@[go_sem] theorem sz110 : sizeA Try.prog 110 = some 1 := size_of inf110
@[go_sem] theorem zr110 : zeroA Try.prog 110 = some [.val (.int .u64 0)] := zero_of inf110
@[go_sem] theorem ld110 (cs : List AV) (off : Nat) : loadA Try.prog 110 cs off = cs[off]? := load_one Try.underlying110 rfl inf110 cs off
attribute [go_sem] Try.underlying110
@[go_sem] theorem sz112 : sizeA Try.prog 112 = some 1 := size_of inf112
@[go_sem] theorem zr112 : zeroA Try.prog 112 = some [.val (.int .u64 0)] := zero_of inf112
@[go_sem] theorem ld112 (cs : List AV) (off : Nat) : loadA Try.prog 112 cs off = cs[off]? := load_one Try.underlying112 rfl inf112 cs off
attribute [go_sem] Try.underlying112
@[go_sem] theorem sz116 : sizeA Try.prog 116 = some 1 := size_of inf116
@[go_sem] theorem zr116 : zeroA Try.prog 116 = some [.val (.pointer none)] := zero_of inf116
@[go_sem] theorem ld116 (cs : List AV) (off : Nat) : loadA Try.prog 116 cs off = cs[off]? := load_one Try.underlying116 rfl inf116 cs off
attribute [go_sem] Try.underlying116
@[go_sem] theorem sz118 : sizeA Try.prog 118 = some 1 := size_of inf118
@[go_sem] theorem zr118 : zeroA Try.prog 118 = some [.val (.pointer none)] := zero_of inf118
@[go_sem] theorem ld118 (cs : List AV) (off : Nat) : loadA Try.prog 118 cs off = cs[off]? := load_one Try.underlying118 rfl inf118 cs off
attribute [go_sem] Try.underlying118
@[go_sem] theorem el22 : elemA Try.prog 22 = .sl 49 3 := elem_of Try.underlying22 sz49
@[go_sem] theorem ap22 (s x : AV) (H : Hp) : appendA Try.prog 22 22 s x H = appendB 49 3 32 s x H := append_of Try.underlying22 inf49 rfl (by decide) (by decide) s x H
@[go_sem] theorem mk22 (n : Int) : makeA Try.prog 22 n = if 0 ≤ n ∧ (32 : Nat) * n ≤ 281474976710656 ∧ n ≤ 9223372036854775807 then some (List.replicate n.toNat [.val (.string ⟨#[]⟩), .val (.int .i64 0), .val (.int .i64 0)], 49) else none := make_of Try.underlying22 inf49 rfl (by decide) n
@[go_sem] theorem lit22 (len : Nat) (ps : List (Nat × AV)) : litA Try.prog 22 len ps = if len * 3 ≤ 16777216 then (fillE 3 (List.replicate len [.val (.string ⟨#[]⟩), .val (.int .i64 0), .val (.int .i64 0)]) ps).map fun es => (es, 49) else none := lit_of Try.underlying22 inf49 rfl (by decide) len ps
@[go_sem] theorem sl22 (x : AV) (lo hi mx : Option AV) : sliceA Try.prog 22 x lo hi mx = sliceB 3 x lo hi mx := slice_of Try.underlying22 sz49 x lo hi mx
@[go_sem] theorem el23 : elemA Try.prog 23 = .sl 31 9 := elem_of Try.underlying23 sz31
@[go_sem] theorem ap23 (s x : AV) (H : Hp) : appendA Try.prog 23 23 s x H = appendB 31 9 80 s x H := append_of Try.underlying23 inf31 rfl (by decide) (by decide) s x H
@[go_sem] theorem mk23 (n : Int) : makeA Try.prog 23 n = if 0 ≤ n ∧ (80 : Nat) * n ≤ 281474976710656 ∧ n ≤ 9223372036854775807 then some (List.replicate n.toNat [.val (.int .i64 0), .val (.int .i64 0), .val (.int .i64 0), .val (.int .i64 0), .val (.int .i64 0), .val (.int .i64 0), .val (.int .i64 0), .val (.int .i64 0), .val (.string ⟨#[]⟩)], 31) else none := make_of Try.underlying23 inf31 rfl (by decide) n
@[go_sem] theorem lit23 (len : Nat) (ps : List (Nat × AV)) : litA Try.prog 23 len ps = if len * 9 ≤ 16777216 then (fillE 9 (List.replicate len [.val (.int .i64 0), .val (.int .i64 0), .val (.int .i64 0), .val (.int .i64 0), .val (.int .i64 0), .val (.int .i64 0), .val (.int .i64 0), .val (.int .i64 0), .val (.string ⟨#[]⟩)]) ps).map fun es => (es, 31) else none := lit_of Try.underlying23 inf31 rfl (by decide) len ps
@[go_sem] theorem sl23 (x : AV) (lo hi mx : Option AV) : sliceA Try.prog 23 x lo hi mx = sliceB 9 x lo hi mx := slice_of Try.underlying23 sz31 x lo hi mx
@[go_sem] theorem fo28_0 : fieldOff Try.prog 28 0 = some 0 := field_off Try.underlying28 rfl sz2 (by decide)
@[go_sem] theorem ft28_0 : fieldTO Try.prog 28 0 = some (2, 0) := field_to Try.underlying28 rfl
@[go_sem] theorem fo28_1 : fieldOff Try.prog 28 1 = some 1 := field_off Try.underlying28 rfl sz2 (by decide)
@[go_sem] theorem ft28_1 : fieldTO Try.prog 28 1 = some (2, 1) := field_to Try.underlying28 rfl
@[go_sem] theorem bd28 (ps : List (Nat × AV)) : buildA Try.prog 28 ps = (fillA (fun i => ([(0, 1), (1, 1)] : List (Nat × Nat))[i]?) [.val (.int .i64 0), .val (.int .i64 0)] ps).map .agg := build_of Try.underlying28 inf28 (by simp only [List.map_cons, List.map_nil, sz2, Option.map_some]) ps
@[go_sem] theorem eq28 (x0 y0 : Int) (x1 y1 : Int) : aggEq Try.prog 28 (.agg #[.int .i64 x0, .int .i64 x1]) (.agg #[.int .i64 y0, .int .i64 y1]) = some (x0 == y0 && (x1 == y1 && true)) := by kernel_rfl
@[go_sem high] theorem be28 {a b : Operand} (x0 y0 : Int) (x1 y1 : Int) : binA Try.prog .eql 28 a b (.agg [.val (.int .i64 x0), .val (.int .i64 x1)]) (.agg [.val (.int .i64 y0), .val (.int .i64 y1)]) = some (.val (.bool (x0 == y0 && (x1 == y1 && true)))) := (bin_agg Try.underlying28 rfl rfl (eq28 ..)).1
@[go_sem high] theorem bq28 {a b : Operand} (x0 y0 : Int) (x1 y1 : Int) : binA Try.prog .neq 28 a b (.agg [.val (.int .i64 x0), .val (.int .i64 x1)]) (.agg [.val (.int .i64 y0), .val (.int .i64 y1)]) = some (.val (.bool (!((x0 == y0 && (x1 == y1 && true)))))) := (bin_agg Try.underlying28 rfl rfl (eq28 ..)).2
@[go_sem] theorem fo29_0 : fieldOff Try.prog 29 0 = some 0 := field_off Try.underlying29 rfl sz2 (by decide)
@[go_sem] theorem ft29_0 : fieldTO Try.prog 29 0 = some (2, 0) := field_to Try.underlying29 rfl
@[go_sem] theorem fo29_1 : fieldOff Try.prog 29 1 = some 1 := field_off Try.underlying29 rfl sz2 (by decide)
@[go_sem] theorem ft29_1 : fieldTO Try.prog 29 1 = some (2, 1) := field_to Try.underlying29 rfl
@[go_sem] theorem bd29 (ps : List (Nat × AV)) : buildA Try.prog 29 ps = (fillA (fun i => ([(0, 1), (1, 1)] : List (Nat × Nat))[i]?) [.val (.int .i64 0), .val (.int .i64 0)] ps).map .agg := build_of Try.underlying29 inf29 (by simp only [List.map_cons, List.map_nil, sz2, Option.map_some]) ps
@[go_sem] theorem eq29 (x0 y0 : Int) (x1 y1 : Int) : aggEq Try.prog 29 (.agg #[.int .i64 x0, .int .i64 x1]) (.agg #[.int .i64 y0, .int .i64 y1]) = some (x0 == y0 && (x1 == y1 && true)) := by kernel_rfl
@[go_sem high] theorem be29 {a b : Operand} (x0 y0 : Int) (x1 y1 : Int) : binA Try.prog .eql 29 a b (.agg [.val (.int .i64 x0), .val (.int .i64 x1)]) (.agg [.val (.int .i64 y0), .val (.int .i64 y1)]) = some (.val (.bool (x0 == y0 && (x1 == y1 && true)))) := (bin_agg Try.underlying29 rfl rfl (eq29 ..)).1
@[go_sem high] theorem bq29 {a b : Operand} (x0 y0 : Int) (x1 y1 : Int) : binA Try.prog .neq 29 a b (.agg [.val (.int .i64 x0), .val (.int .i64 x1)]) (.agg [.val (.int .i64 y0), .val (.int .i64 y1)]) = some (.val (.bool (!((x0 == y0 && (x1 == y1 && true)))))) := (bin_agg Try.underlying29 rfl rfl (eq29 ..)).2
@[go_sem] theorem fo30_0 : fieldOff Try.prog 30 0 = some 0 := field_off Try.underlying30 rfl sz3 (by decide)
@[go_sem] theorem ft30_0 : fieldTO Try.prog 30 0 = some (3, 0) := field_to Try.underlying30 rfl
@[go_sem] theorem fo30_1 : fieldOff Try.prog 30 1 = some 1 := field_off Try.underlying30 rfl sz2 (by decide)
@[go_sem] theorem ft30_1 : fieldTO Try.prog 30 1 = some (2, 1) := field_to Try.underlying30 rfl
@[go_sem] theorem fo30_2 : fieldOff Try.prog 30 2 = some 2 := field_off Try.underlying30 rfl sz3 (by decide)
@[go_sem] theorem ft30_2 : fieldTO Try.prog 30 2 = some (3, 2) := field_to Try.underlying30 rfl
@[go_sem] theorem fo30_3 : fieldOff Try.prog 30 3 = some 3 := field_off Try.underlying30 rfl sz2 (by decide)
@[go_sem] theorem ft30_3 : fieldTO Try.prog 30 3 = some (2, 3) := field_to Try.underlying30 rfl
@[go_sem] theorem fo30_4 : fieldOff Try.prog 30 4 = some 4 := field_off Try.underlying30 rfl sz3 (by decide)
@[go_sem] theorem ft30_4 : fieldTO Try.prog 30 4 = some (3, 4) := field_to Try.underlying30 rfl
@[go_sem] theorem fo30_5 : fieldOff Try.prog 30 5 = some 5 := field_off Try.underlying30 rfl sz2 (by decide)
@[go_sem] theorem ft30_5 : fieldTO Try.prog 30 5 = some (2, 5) := field_to Try.underlying30 rfl
@[go_sem] theorem fo30_6 : fieldOff Try.prog 30 6 = some 6 := field_off Try.underlying30 rfl sz29 (by decide)
@[go_sem] theorem ft30_6 : fieldTO Try.prog 30 6 = some (29, 6) := field_to Try.underlying30 rfl
@[go_sem] theorem fo30_7 : fieldOff Try.prog 30 7 = some 8 := field_off Try.underlying30 rfl sz9 (by decide)
@[go_sem] theorem ft30_7 : fieldTO Try.prog 30 7 = some (9, 8) := field_to Try.underlying30 rfl
@[go_sem] theorem bd30 (ps : List (Nat × AV)) : buildA Try.prog 30 ps = (fillA (fun i => ([(0, 1), (1, 1), (2, 1), (3, 1), (4, 1), (5, 1), (6, 2), (8, 1)] : List (Nat × Nat))[i]?) [.val (.int .i64 0), .val (.int .i64 0), .val (.int .i64 0), .val (.int .i64 0), .val (.int .i64 0), .val (.int .i64 0), .val (.int .i64 0), .val (.int .i64 0), .val (.string ⟨#[]⟩)] ps).map .agg := build_of Try.underlying30 inf30 (by simp only [List.map_cons, List.map_nil, sz2, sz3, sz9, sz29, Option.map_some]) ps
@[go_sem] theorem eq30 (x0 y0 : Int) (x1 y1 : Int) (x2 y2 : Int) (x3 y3 : Int) (x4 y4 : Int) (x5 y5 : Int) (x6 y6 : Int) (x7 y7 : Int) (x8 y8 : ByteArray) : aggEq Try.prog 30 (.agg #[.int .i64 x0, .int .i64 x1, .int .i64 x2, .int .i64 x3, .int .i64 x4, .int .i64 x5, .int .i64 x6, .int .i64 x7, .string x8]) (.agg #[.int .i64 y0, .int .i64 y1, .int .i64 y2, .int .i64 y3, .int .i64 y4, .int .i64 y5, .int .i64 y6, .int .i64 y7, .string y8]) = some (x0 == y0 && (x1 == y1 && (x2 == y2 && (x3 == y3 && (x4 == y4 && (x5 == y5 && ((x6 == y6 && (x7 == y7 && true)) && (x8 == y8 && true)))))))) := by kernel_rfl
@[go_sem high] theorem be30 {a b : Operand} (x0 y0 : Int) (x1 y1 : Int) (x2 y2 : Int) (x3 y3 : Int) (x4 y4 : Int) (x5 y5 : Int) (x6 y6 : Int) (x7 y7 : Int) (x8 y8 : ByteArray) : binA Try.prog .eql 30 a b (.agg [.val (.int .i64 x0), .val (.int .i64 x1), .val (.int .i64 x2), .val (.int .i64 x3), .val (.int .i64 x4), .val (.int .i64 x5), .val (.int .i64 x6), .val (.int .i64 x7), .val (.string x8)]) (.agg [.val (.int .i64 y0), .val (.int .i64 y1), .val (.int .i64 y2), .val (.int .i64 y3), .val (.int .i64 y4), .val (.int .i64 y5), .val (.int .i64 y6), .val (.int .i64 y7), .val (.string y8)]) = some (.val (.bool (x0 == y0 && (x1 == y1 && (x2 == y2 && (x3 == y3 && (x4 == y4 && (x5 == y5 && ((x6 == y6 && (x7 == y7 && true)) && (x8 == y8 && true)))))))))) := (bin_agg Try.underlying30 rfl rfl (eq30 ..)).1
@[go_sem high] theorem bq30 {a b : Operand} (x0 y0 : Int) (x1 y1 : Int) (x2 y2 : Int) (x3 y3 : Int) (x4 y4 : Int) (x5 y5 : Int) (x6 y6 : Int) (x7 y7 : Int) (x8 y8 : ByteArray) : binA Try.prog .neq 30 a b (.agg [.val (.int .i64 x0), .val (.int .i64 x1), .val (.int .i64 x2), .val (.int .i64 x3), .val (.int .i64 x4), .val (.int .i64 x5), .val (.int .i64 x6), .val (.int .i64 x7), .val (.string x8)]) (.agg [.val (.int .i64 y0), .val (.int .i64 y1), .val (.int .i64 y2), .val (.int .i64 y3), .val (.int .i64 y4), .val (.int .i64 y5), .val (.int .i64 y6), .val (.int .i64 y7), .val (.string y8)]) = some (.val (.bool (!((x0 == y0 && (x1 == y1 && (x2 == y2 && (x3 == y3 && (x4 == y4 && (x5 == y5 && ((x6 == y6 && (x7 == y7 && true)) && (x8 == y8 && true)))))))))))) := (bin_agg Try.underlying30 rfl rfl (eq30 ..)).2
@[go_sem] theorem fo31_0 : fieldOff Try.prog 31 0 = some 0 := field_off Try.underlying31 rfl sz3 (by decide)
@[go_sem] theorem ft31_0 : fieldTO Try.prog 31 0 = some (3, 0) := field_to Try.underlying31 rfl
@[go_sem] theorem fo31_1 : fieldOff Try.prog 31 1 = some 1 := field_off Try.underlying31 rfl sz2 (by decide)
@[go_sem] theorem ft31_1 : fieldTO Try.prog 31 1 = some (2, 1) := field_to Try.underlying31 rfl
@[go_sem] theorem fo31_2 : fieldOff Try.prog 31 2 = some 2 := field_off Try.underlying31 rfl sz3 (by decide)
@[go_sem] theorem ft31_2 : fieldTO Try.prog 31 2 = some (3, 2) := field_to Try.underlying31 rfl
@[go_sem] theorem fo31_3 : fieldOff Try.prog 31 3 = some 3 := field_off Try.underlying31 rfl sz2 (by decide)
@[go_sem] theorem ft31_3 : fieldTO Try.prog 31 3 = some (2, 3) := field_to Try.underlying31 rfl
@[go_sem] theorem fo31_4 : fieldOff Try.prog 31 4 = some 4 := field_off Try.underlying31 rfl sz3 (by decide)
@[go_sem] theorem ft31_4 : fieldTO Try.prog 31 4 = some (3, 4) := field_to Try.underlying31 rfl
@[go_sem] theorem fo31_5 : fieldOff Try.prog 31 5 = some 5 := field_off Try.underlying31 rfl sz2 (by decide)
@[go_sem] theorem ft31_5 : fieldTO Try.prog 31 5 = some (2, 5) := field_to Try.underlying31 rfl
@[go_sem] theorem fo31_6 : fieldOff Try.prog 31 6 = some 6 := field_off Try.underlying31 rfl sz29 (by decide)
@[go_sem] theorem ft31_6 : fieldTO Try.prog 31 6 = some (29, 6) := field_to Try.underlying31 rfl
@[go_sem] theorem fo31_7 : fieldOff Try.prog 31 7 = some 8 := field_off Try.underlying31 rfl sz9 (by decide)
@[go_sem] theorem ft31_7 : fieldTO Try.prog 31 7 = some (9, 8) := field_to Try.underlying31 rfl
@[go_sem] theorem bd31 (ps : List (Nat × AV)) : buildA Try.prog 31 ps = (fillA (fun i => ([(0, 1), (1, 1), (2, 1), (3, 1), (4, 1), (5, 1), (6, 2), (8, 1)] : List (Nat × Nat))[i]?) [.val (.int .i64 0), .val (.int .i64 0), .val (.int .i64 0), .val (.int .i64 0), .val (.int .i64 0), .val (.int .i64 0), .val (.int .i64 0), .val (.int .i64 0), .val (.string ⟨#[]⟩)] ps).map .agg := build_of Try.underlying31 inf31 (by simp only [List.map_cons, List.map_nil, sz2, sz3, sz9, sz29, Option.map_some]) ps
@[go_sem] theorem eq31 (x0 y0 : Int) (x1 y1 : Int) (x2 y2 : Int) (x3 y3 : Int) (x4 y4 : Int) (x5 y5 : Int) (x6 y6 : Int) (x7 y7 : Int) (x8 y8 : ByteArray) : aggEq Try.prog 31 (.agg #[.int .i64 x0, .int .i64 x1, .int .i64 x2, .int .i64 x3, .int .i64 x4, .int .i64 x5, .int .i64 x6, .int .i64 x7, .string x8]) (.agg #[.int .i64 y0, .int .i64 y1, .int .i64 y2, .int .i64 y3, .int .i64 y4, .int .i64 y5, .int .i64 y6, .int .i64 y7, .string y8]) = some (x0 == y0 && (x1 == y1 && (x2 == y2 && (x3 == y3 && (x4 == y4 && (x5 == y5 && ((x6 == y6 && (x7 == y7 && true)) && (x8 == y8 && true)))))))) := by kernel_rfl
@[go_sem high] theorem be31 {a b : Operand} (x0 y0 : Int) (x1 y1 : Int) (x2 y2 : Int) (x3 y3 : Int) (x4 y4 : Int) (x5 y5 : Int) (x6 y6 : Int) (x7 y7 : Int) (x8 y8 : ByteArray) : binA Try.prog .eql 31 a b (.agg [.val (.int .i64 x0), .val (.int .i64 x1), .val (.int .i64 x2), .val (.int .i64 x3), .val (.int .i64 x4), .val (.int .i64 x5), .val (.int .i64 x6), .val (.int .i64 x7), .val (.string x8)]) (.agg [.val (.int .i64 y0), .val (.int .i64 y1), .val (.int .i64 y2), .val (.int .i64 y3), .val (.int .i64 y4), .val (.int .i64 y5), .val (.int .i64 y6), .val (.int .i64 y7), .val (.string y8)]) = some (.val (.bool (x0 == y0 && (x1 == y1 && (x2 == y2 && (x3 == y3 && (x4 == y4 && (x5 == y5 && ((x6 == y6 && (x7 == y7 && true)) && (x8 == y8 && true)))))))))) := (bin_agg Try.underlying31 rfl rfl (eq31 ..)).1
@[go_sem high] theorem bq31 {a b : Operand} (x0 y0 : Int) (x1 y1 : Int) (x2 y2 : Int) (x3 y3 : Int) (x4 y4 : Int) (x5 y5 : Int) (x6 y6 : Int) (x7 y7 : Int) (x8 y8 : ByteArray) : binA Try.prog .neq 31 a b (.agg [.val (.int .i64 x0), .val (.int .i64 x1), .val (.int .i64 x2), .val (.int .i64 x3), .val (.int .i64 x4), .val (.int .i64 x5), .val (.int .i64 x6), .val (.int .i64 x7), .val (.string x8)]) (.agg [.val (.int .i64 y0), .val (.int .i64 y1), .val (.int .i64 y2), .val (.int .i64 y3), .val (.int .i64 y4), .val (.int .i64 y5), .val (.int .i64 y6), .val (.int .i64 y7), .val (.string y8)]) = some (.val (.bool (!((x0 == y0 && (x1 == y1 && (x2 == y2 && (x3 == y3 && (x4 == y4 && (x5 == y5 && ((x6 == y6 && (x7 == y7 && true)) && (x8 == y8 && true)))))))))))) := (bin_agg Try.underlying31 rfl rfl (eq31 ..)).2
@[go_sem] theorem fo37_0 : fieldOff Try.prog 37 0 = some 0 := field_off Try.underlying37 rfl sz3 (by decide)
@[go_sem] theorem ft37_0 : fieldTO Try.prog 37 0 = some (3, 0) := field_to Try.underlying37 rfl
@[go_sem] theorem fo37_1 : fieldOff Try.prog 37 1 = some 1 := field_off Try.underlying37 rfl sz2 (by decide)
@[go_sem] theorem ft37_1 : fieldTO Try.prog 37 1 = some (2, 1) := field_to Try.underlying37 rfl
@[go_sem] theorem fo37_2 : fieldOff Try.prog 37 2 = some 2 := field_off Try.underlying37 rfl sz2 (by decide)
@[go_sem] theorem ft37_2 : fieldTO Try.prog 37 2 = some (2, 2) := field_to Try.underlying37 rfl
@[go_sem] theorem fo37_3 : fieldOff Try.prog 37 3 = some 3 := field_off Try.underlying37 rfl sz3 (by decide)
@[go_sem] theorem ft37_3 : fieldTO Try.prog 37 3 = some (3, 3) := field_to Try.underlying37 rfl
@[go_sem] theorem fo37_4 : fieldOff Try.prog 37 4 = some 4 := field_off Try.underlying37 rfl sz2 (by decide)
@[go_sem] theorem ft37_4 : fieldTO Try.prog 37 4 = some (2, 4) := field_to Try.underlying37 rfl
@[go_sem] theorem fo37_5 : fieldOff Try.prog 37 5 = some 5 := field_off Try.underlying37 rfl sz2 (by decide)
@[go_sem] theorem ft37_5 : fieldTO Try.prog 37 5 = some (2, 5) := field_to Try.underlying37 rfl
@[go_sem] theorem bd37 (ps : List (Nat × AV)) : buildA Try.prog 37 ps = (fillA (fun i => ([(0, 1), (1, 1), (2, 1), (3, 1), (4, 1), (5, 1)] : List (Nat × Nat))[i]?) [.val (.int .i64 0), .val (.int .i64 0), .val (.int .i64 0), .val (.int .i64 0), .val (.int .i64 0), .val (.int .i64 0)] ps).map .agg := build_of Try.underlying37 inf37 (by simp only [List.map_cons, List.map_nil, sz2, sz3, Option.map_some]) ps
@[go_sem] theorem eq37 (x0 y0 : Int) (x1 y1 : Int) (x2 y2 : Int) (x3 y3 : Int) (x4 y4 : Int) (x5 y5 : Int) : aggEq Try.prog 37 (.agg #[.int .i64 x0, .int .i64 x1, .int .i64 x2, .int .i64 x3, .int .i64 x4, .int .i64 x5]) (.agg #[.int .i64 y0, .int .i64 y1, .int .i64 y2, .int .i64 y3, .int .i64 y4, .int .i64 y5]) = some (x0 == y0 && (x1 == y1 && (x2 == y2 && (x3 == y3 && (x4 == y4 && (x5 == y5 && true)))))) := by kernel_rfl
@[go_sem high] theorem be37 {a b : Operand} (x0 y0 : Int) (x1 y1 : Int) (x2 y2 : Int) (x3 y3 : Int) (x4 y4 : Int) (x5 y5 : Int) : binA Try.prog .eql 37 a b (.agg [.val (.int .i64 x0), .val (.int .i64 x1), .val (.int .i64 x2), .val (.int .i64 x3), .val (.int .i64 x4), .val (.int .i64 x5)]) (.agg [.val (.int .i64 y0), .val (.int .i64 y1), .val (.int .i64 y2), .val (.int .i64 y3), .val (.int .i64 y4), .val (.int .i64 y5)]) = some (.val (.bool (x0 == y0 && (x1 == y1 && (x2 == y2 && (x3 == y3 && (x4 == y4 && (x5 == y5 && true)))))))) := (bin_agg Try.underlying37 rfl rfl (eq37 ..)).1
@[go_sem high] theorem bq37 {a b : Operand} (x0 y0 : Int) (x1 y1 : Int) (x2 y2 : Int) (x3 y3 : Int) (x4 y4 : Int) (x5 y5 : Int) : binA Try.prog .neq 37 a b (.agg [.val (.int .i64 x0), .val (.int .i64 x1), .val (.int .i64 x2), .val (.int .i64 x3), .val (.int .i64 x4), .val (.int .i64 x5)]) (.agg [.val (.int .i64 y0), .val (.int .i64 y1), .val (.int .i64 y2), .val (.int .i64 y3), .val (.int .i64 y4), .val (.int .i64 y5)]) = some (.val (.bool (!((x0 == y0 && (x1 == y1 && (x2 == y2 && (x3 == y3 && (x4 == y4 && (x5 == y5 && true)))))))))) := (bin_agg Try.underlying37 rfl rfl (eq37 ..)).2
@[go_sem] theorem fo38_0 : fieldOff Try.prog 38 0 = some 0 := field_off Try.underlying38 rfl sz3 (by decide)
@[go_sem] theorem ft38_0 : fieldTO Try.prog 38 0 = some (3, 0) := field_to Try.underlying38 rfl
@[go_sem] theorem fo38_1 : fieldOff Try.prog 38 1 = some 1 := field_off Try.underlying38 rfl sz2 (by decide)
@[go_sem] theorem ft38_1 : fieldTO Try.prog 38 1 = some (2, 1) := field_to Try.underlying38 rfl
@[go_sem] theorem fo38_2 : fieldOff Try.prog 38 2 = some 2 := field_off Try.underlying38 rfl sz2 (by decide)
@[go_sem] theorem ft38_2 : fieldTO Try.prog 38 2 = some (2, 2) := field_to Try.underlying38 rfl
@[go_sem] theorem fo38_3 : fieldOff Try.prog 38 3 = some 3 := field_off Try.underlying38 rfl sz3 (by decide)
@[go_sem] theorem ft38_3 : fieldTO Try.prog 38 3 = some (3, 3) := field_to Try.underlying38 rfl
@[go_sem] theorem fo38_4 : fieldOff Try.prog 38 4 = some 4 := field_off Try.underlying38 rfl sz2 (by decide)
@[go_sem] theorem ft38_4 : fieldTO Try.prog 38 4 = some (2, 4) := field_to Try.underlying38 rfl
@[go_sem] theorem fo38_5 : fieldOff Try.prog 38 5 = some 5 := field_off Try.underlying38 rfl sz2 (by decide)
@[go_sem] theorem ft38_5 : fieldTO Try.prog 38 5 = some (2, 5) := field_to Try.underlying38 rfl
@[go_sem] theorem bd38 (ps : List (Nat × AV)) : buildA Try.prog 38 ps = (fillA (fun i => ([(0, 1), (1, 1), (2, 1), (3, 1), (4, 1), (5, 1)] : List (Nat × Nat))[i]?) [.val (.int .i64 0), .val (.int .i64 0), .val (.int .i64 0), .val (.int .i64 0), .val (.int .i64 0), .val (.int .i64 0)] ps).map .agg := build_of Try.underlying38 inf38 (by simp only [List.map_cons, List.map_nil, sz2, sz3, Option.map_some]) ps
@[go_sem] theorem eq38 (x0 y0 : Int) (x1 y1 : Int) (x2 y2 : Int) (x3 y3 : Int) (x4 y4 : Int) (x5 y5 : Int) : aggEq Try.prog 38 (.agg #[.int .i64 x0, .int .i64 x1, .int .i64 x2, .int .i64 x3, .int .i64 x4, .int .i64 x5]) (.agg #[.int .i64 y0, .int .i64 y1, .int .i64 y2, .int .i64 y3, .int .i64 y4, .int .i64 y5]) = some (x0 == y0 && (x1 == y1 && (x2 == y2 && (x3 == y3 && (x4 == y4 && (x5 == y5 && true)))))) := by kernel_rfl
@[go_sem high] theorem be38 {a b : Operand} (x0 y0 : Int) (x1 y1 : Int) (x2 y2 : Int) (x3 y3 : Int) (x4 y4 : Int) (x5 y5 : Int) : binA Try.prog .eql 38 a b (.agg [.val (.int .i64 x0), .val (.int .i64 x1), .val (.int .i64 x2), .val (.int .i64 x3), .val (.int .i64 x4), .val (.int .i64 x5)]) (.agg [.val (.int .i64 y0), .val (.int .i64 y1), .val (.int .i64 y2), .val (.int .i64 y3), .val (.int .i64 y4), .val (.int .i64 y5)]) = some (.val (.bool (x0 == y0 && (x1 == y1 && (x2 == y2 && (x3 == y3 && (x4 == y4 && (x5 == y5 && true)))))))) := (bin_agg Try.underlying38 rfl rfl (eq38 ..)).1
@[go_sem high] theorem bq38 {a b : Operand} (x0 y0 : Int) (x1 y1 : Int) (x2 y2 : Int) (x3 y3 : Int) (x4 y4 : Int) (x5 y5 : Int) : binA Try.prog .neq 38 a b (.agg [.val (.int .i64 x0), .val (.int .i64 x1), .val (.int .i64 x2), .val (.int .i64 x3), .val (.int .i64 x4), .val (.int .i64 x5)]) (.agg [.val (.int .i64 y0), .val (.int .i64 y1), .val (.int .i64 y2), .val (.int .i64 y3), .val (.int .i64 y4), .val (.int .i64 y5)]) = some (.val (.bool (!((x0 == y0 && (x1 == y1 && (x2 == y2 && (x3 == y3 && (x4 == y4 && (x5 == y5 && true)))))))))) := (bin_agg Try.underlying38 rfl rfl (eq38 ..)).2
@[go_sem] theorem fo48_0 : fieldOff Try.prog 48 0 = some 0 := field_off Try.underlying48 rfl sz9 (by decide)
@[go_sem] theorem ft48_0 : fieldTO Try.prog 48 0 = some (9, 0) := field_to Try.underlying48 rfl
@[go_sem] theorem fo48_1 : fieldOff Try.prog 48 1 = some 1 := field_off Try.underlying48 rfl sz29 (by decide)
@[go_sem] theorem ft48_1 : fieldTO Try.prog 48 1 = some (29, 1) := field_to Try.underlying48 rfl
@[go_sem] theorem bd48 (ps : List (Nat × AV)) : buildA Try.prog 48 ps = (fillA (fun i => ([(0, 1), (1, 2)] : List (Nat × Nat))[i]?) [.val (.string ⟨#[]⟩), .val (.int .i64 0), .val (.int .i64 0)] ps).map .agg := build_of Try.underlying48 inf48 (by simp only [List.map_cons, List.map_nil, sz9, sz29, Option.map_some]) ps
@[go_sem] theorem eq48 (x0 y0 : ByteArray) (x1 y1 : Int) (x2 y2 : Int) : aggEq Try.prog 48 (.agg #[.string x0, .int .i64 x1, .int .i64 x2]) (.agg #[.string y0, .int .i64 y1, .int .i64 y2]) = some (x0 == y0 && ((x1 == y1 && (x2 == y2 && true)) && true)) := by kernel_rfl
@[go_sem high] theorem be48 {a b : Operand} (x0 y0 : ByteArray) (x1 y1 : Int) (x2 y2 : Int) : binA Try.prog .eql 48 a b (.agg [.val (.string x0), .val (.int .i64 x1), .val (.int .i64 x2)]) (.agg [.val (.string y0), .val (.int .i64 y1), .val (.int .i64 y2)]) = some (.val (.bool (x0 == y0 && ((x1 == y1 && (x2 == y2 && true)) && true)))) := (bin_agg Try.underlying48 rfl rfl (eq48 ..)).1
@[go_sem high] theorem bq48 {a b : Operand} (x0 y0 : ByteArray) (x1 y1 : Int) (x2 y2 : Int) : binA Try.prog .neq 48 a b (.agg [.val (.string x0), .val (.int .i64 x1), .val (.int .i64 x2)]) (.agg [.val (.string y0), .val (.int .i64 y1), .val (.int .i64 y2)]) = some (.val (.bool (!((x0 == y0 && ((x1 == y1 && (x2 == y2 && true)) && true)))))) := (bin_agg Try.underlying48 rfl rfl (eq48 ..)).2
@[go_sem] theorem fo49_0 : fieldOff Try.prog 49 0 = some 0 := field_off Try.underlying49 rfl sz9 (by decide)
@[go_sem] theorem ft49_0 : fieldTO Try.prog 49 0 = some (9, 0) := field_to Try.underlying49 rfl
@[go_sem] theorem fo49_1 : fieldOff Try.prog 49 1 = some 1 := field_off Try.underlying49 rfl sz29 (by decide)
@[go_sem] theorem ft49_1 : fieldTO Try.prog 49 1 = some (29, 1) := field_to Try.underlying49 rfl
@[go_sem] theorem bd49 (ps : List (Nat × AV)) : buildA Try.prog 49 ps = (fillA (fun i => ([(0, 1), (1, 2)] : List (Nat × Nat))[i]?) [.val (.string ⟨#[]⟩), .val (.int .i64 0), .val (.int .i64 0)] ps).map .agg := build_of Try.underlying49 inf49 (by simp only [List.map_cons, List.map_nil, sz9, sz29, Option.map_some]) ps
@[go_sem] theorem eq49 (x0 y0 : ByteArray) (x1 y1 : Int) (x2 y2 : Int) : aggEq Try.prog 49 (.agg #[.string x0, .int .i64 x1, .int .i64 x2]) (.agg #[.string y0, .int .i64 y1, .int .i64 y2]) = some (x0 == y0 && ((x1 == y1 && (x2 == y2 && true)) && true)) := by kernel_rfl
@[go_sem high] theorem be49 {a b : Operand} (x0 y0 : ByteArray) (x1 y1 : Int) (x2 y2 : Int) : binA Try.prog .eql 49 a b (.agg [.val (.string x0), .val (.int .i64 x1), .val (.int .i64 x2)]) (.agg [.val (.string y0), .val (.int .i64 y1), .val (.int .i64 y2)]) = some (.val (.bool (x0 == y0 && ((x1 == y1 && (x2 == y2 && true)) && true)))) := (bin_agg Try.underlying49 rfl rfl (eq49 ..)).1
@[go_sem high] theorem bq49 {a b : Operand} (x0 y0 : ByteArray) (x1 y1 : Int) (x2 y2 : Int) : binA Try.prog .neq 49 a b (.agg [.val (.string x0), .val (.int .i64 x1), .val (.int .i64 x2)]) (.agg [.val (.string y0), .val (.int .i64 y1), .val (.int .i64 y2)]) = some (.val (.bool (!((x0 == y0 && ((x1 == y1 && (x2 == y2 && true)) && true)))))) := (bin_agg Try.underlying49 rfl rfl (eq49 ..)).2
@[go_sem] theorem el55 : elemA Try.prog 55 = .sl 5 1 := elem_of Try.underlying55 sz5
@[go_sem] theorem ap55 (s x : AV) (H : Hp) : appendA Try.prog 55 55 s x H = appendB 5 1 1 s x H := append_of Try.underlying55 inf5 rfl (by decide) (by decide) s x H
@[go_sem] theorem mk55 (n : Int) : makeA Try.prog 55 n = if 0 ≤ n ∧ (1 : Nat) * n ≤ 281474976710656 ∧ n ≤ 9223372036854775807 then some (List.replicate n.toNat [.val (.int .u8 0)], 5) else none := make_of Try.underlying55 inf5 rfl (by decide) n
@[go_sem] theorem lit55 (len : Nat) (ps : List (Nat × AV)) : litA Try.prog 55 len ps = if len * 1 ≤ 16777216 then (fillE 1 (List.replicate len [.val (.int .u8 0)]) ps).map fun es => (es, 5) else none := lit_of Try.underlying55 inf5 rfl (by decide) len ps
@[go_sem] theorem sl55 (x : AV) (lo hi mx : Option AV) : sliceA Try.prog 55 x lo hi mx = sliceB 1 x lo hi mx := slice_of Try.underlying55 sz5 x lo hi mx
@[go_sem] theorem fo57_0 : fieldOff Try.prog 57 0 = some 0 := field_off Try.underlying57 rfl sz22 (by decide)
@[go_sem] theorem ft57_0 : fieldTO Try.prog 57 0 = some (22, 0) := field_to Try.underlying57 rfl
@[go_sem] theorem fo57_1 : fieldOff Try.prog 57 1 = some 1 := field_off Try.underlying57 rfl sz56 (by decide)
@[go_sem] theorem ft57_1 : fieldTO Try.prog 57 1 = some (56, 1) := field_to Try.underlying57 rfl
@[go_sem] theorem bd57 (ps : List (Nat × AV)) : buildA Try.prog 57 ps = (fillA (fun i => ([(0, 1), (1, 1)] : List (Nat × Nat))[i]?) [.val (.slice none 0 0), .val (.map none)] ps).map .agg := build_of Try.underlying57 inf57 (by simp only [List.map_cons, List.map_nil, sz22, sz56, Option.map_some]) ps
@[go_sem] theorem fo58_0 : fieldOff Try.prog 58 0 = some 0 := field_off Try.underlying58 rfl sz22 (by decide)
@[go_sem] theorem ft58_0 : fieldTO Try.prog 58 0 = some (22, 0) := field_to Try.underlying58 rfl
@[go_sem] theorem fo58_1 : fieldOff Try.prog 58 1 = some 1 := field_off Try.underlying58 rfl sz56 (by decide)
@[go_sem] theorem ft58_1 : fieldTO Try.prog 58 1 = some (56, 1) := field_to Try.underlying58 rfl
@[go_sem] theorem bd58 (ps : List (Nat × AV)) : buildA Try.prog 58 ps = (fillA (fun i => ([(0, 1), (1, 1)] : List (Nat × Nat))[i]?) [.val (.slice none 0 0), .val (.map none)] ps).map .agg := build_of Try.underlying58 inf58 (by simp only [List.map_cons, List.map_nil, sz22, sz56, Option.map_some]) ps
@[go_sem] theorem fo69_0 : fieldOff Try.prog 69 0 = some 0 := field_off Try.underlying69 rfl sz23 (by decide)
@[go_sem] theorem ft69_0 : fieldTO Try.prog 69 0 = some (23, 0) := field_to Try.underlying69 rfl
@[go_sem] theorem fo69_1 : fieldOff Try.prog 69 1 = some 1 := field_off Try.underlying69 rfl sz29 (by decide)
@[go_sem] theorem ft69_1 : fieldTO Try.prog 69 1 = some (29, 1) := field_to Try.underlying69 rfl
@[go_sem] theorem fo69_2 : fieldOff Try.prog 69 2 = some 3 := field_off Try.underlying69 rfl sz68 (by decide)
@[go_sem] theorem ft69_2 : fieldTO Try.prog 69 2 = some (68, 3) := field_to Try.underlying69 rfl
@[go_sem] theorem bd69 (ps : List (Nat × AV)) : buildA Try.prog 69 ps = (fillA (fun i => ([(0, 1), (1, 2), (3, 1)] : List (Nat × Nat))[i]?) [.val (.slice none 0 0), .val (.int .i64 0), .val (.int .i64 0), .val (.nilFunc)] ps).map .agg := build_of Try.underlying69 inf69 (by simp only [List.map_cons, List.map_nil, sz23, sz29, sz68, Option.map_some]) ps
@[go_sem] theorem fo70_0 : fieldOff Try.prog 70 0 = some 0 := field_off Try.underlying70 rfl sz23 (by decide)
@[go_sem] theorem ft70_0 : fieldTO Try.prog 70 0 = some (23, 0) := field_to Try.underlying70 rfl
@[go_sem] theorem fo70_1 : fieldOff Try.prog 70 1 = some 1 := field_off Try.underlying70 rfl sz29 (by decide)
@[go_sem] theorem ft70_1 : fieldTO Try.prog 70 1 = some (29, 1) := field_to Try.underlying70 rfl
@[go_sem] theorem fo70_2 : fieldOff Try.prog 70 2 = some 3 := field_off Try.underlying70 rfl sz68 (by decide)
@[go_sem] theorem ft70_2 : fieldTO Try.prog 70 2 = some (68, 3) := field_to Try.underlying70 rfl
@[go_sem] theorem bd70 (ps : List (Nat × AV)) : buildA Try.prog 70 ps = (fillA (fun i => ([(0, 1), (1, 2), (3, 1)] : List (Nat × Nat))[i]?) [.val (.slice none 0 0), .val (.int .i64 0), .val (.int .i64 0), .val (.nilFunc)] ps).map .agg := build_of Try.underlying70 inf70 (by simp only [List.map_cons, List.map_nil, sz23, sz29, sz68, Option.map_some]) ps
@[go_sem] theorem fo76_0 : fieldOff Try.prog 76 0 = some 0 := field_off Try.underlying76 rfl sz3 (by decide)
@[go_sem] theorem ft76_0 : fieldTO Try.prog 76 0 = some (3, 0) := field_to Try.underlying76 rfl
@[go_sem] theorem fo76_1 : fieldOff Try.prog 76 1 = some 1 := field_off Try.underlying76 rfl sz2 (by decide)
@[go_sem] theorem ft76_1 : fieldTO Try.prog 76 1 = some (2, 1) := field_to Try.underlying76 rfl
@[go_sem] theorem fo76_2 : fieldOff Try.prog 76 2 = some 2 := field_off Try.underlying76 rfl sz3 (by decide)
@[go_sem] theorem ft76_2 : fieldTO Try.prog 76 2 = some (3, 2) := field_to Try.underlying76 rfl
@[go_sem] theorem bd76 (ps : List (Nat × AV)) : buildA Try.prog 76 ps = (fillA (fun i => ([(0, 1), (1, 1), (2, 1)] : List (Nat × Nat))[i]?) [.val (.int .i64 0), .val (.int .i64 0), .val (.int .i64 0)] ps).map .agg := build_of Try.underlying76 inf76 (by simp only [List.map_cons, List.map_nil, sz2, sz3, Option.map_some]) ps
@[go_sem] theorem eq76 (x0 y0 : Int) (x1 y1 : Int) (x2 y2 : Int) : aggEq Try.prog 76 (.agg #[.int .i64 x0, .int .i64 x1, .int .i64 x2]) (.agg #[.int .i64 y0, .int .i64 y1, .int .i64 y2]) = some (x0 == y0 && (x1 == y1 && (x2 == y2 && true))) := by kernel_rfl
@[go_sem high] theorem be76 {a b : Operand} (x0 y0 : Int) (x1 y1 : Int) (x2 y2 : Int) : binA Try.prog .eql 76 a b (.agg [.val (.int .i64 x0), .val (.int .i64 x1), .val (.int .i64 x2)]) (.agg [.val (.int .i64 y0), .val (.int .i64 y1), .val (.int .i64 y2)]) = some (.val (.bool (x0 == y0 && (x1 == y1 && (x2 == y2 && true))))) := (bin_agg Try.underlying76 rfl rfl (eq76 ..)).1
@[go_sem high] theorem bq76 {a b : Operand} (x0 y0 : Int) (x1 y1 : Int) (x2 y2 : Int) : binA Try.prog .neq 76 a b (.agg [.val (.int .i64 x0), .val (.int .i64 x1), .val (.int .i64 x2)]) (.agg [.val (.int .i64 y0), .val (.int .i64 y1), .val (.int .i64 y2)]) = some (.val (.bool (!((x0 == y0 && (x1 == y1 && (x2 == y2 && true))))))) := (bin_agg Try.underlying76 rfl rfl (eq76 ..)).2
@[go_sem] theorem fo77_0 : fieldOff Try.prog 77 0 = some 0 := field_off Try.underlying77 rfl sz3 (by decide)
@[go_sem] theorem ft77_0 : fieldTO Try.prog 77 0 = some (3, 0) := field_to Try.underlying77 rfl
@[go_sem] theorem fo77_1 : fieldOff Try.prog 77 1 = some 1 := field_off Try.underlying77 rfl sz2 (by decide)
@[go_sem] theorem ft77_1 : fieldTO Try.prog 77 1 = some (2, 1) := field_to Try.underlying77 rfl
@[go_sem] theorem fo77_2 : fieldOff Try.prog 77 2 = some 2 := field_off Try.underlying77 rfl sz3 (by decide)
@[go_sem] theorem ft77_2 : fieldTO Try.prog 77 2 = some (3, 2) := field_to Try.underlying77 rfl
@[go_sem] theorem bd77 (ps : List (Nat × AV)) : buildA Try.prog 77 ps = (fillA (fun i => ([(0, 1), (1, 1), (2, 1)] : List (Nat × Nat))[i]?) [.val (.int .i64 0), .val (.int .i64 0), .val (.int .i64 0)] ps).map .agg := build_of Try.underlying77 inf77 (by simp only [List.map_cons, List.map_nil, sz2, sz3, Option.map_some]) ps
@[go_sem] theorem eq77 (x0 y0 : Int) (x1 y1 : Int) (x2 y2 : Int) : aggEq Try.prog 77 (.agg #[.int .i64 x0, .int .i64 x1, .int .i64 x2]) (.agg #[.int .i64 y0, .int .i64 y1, .int .i64 y2]) = some (x0 == y0 && (x1 == y1 && (x2 == y2 && true))) := by kernel_rfl
@[go_sem high] theorem be77 {a b : Operand} (x0 y0 : Int) (x1 y1 : Int) (x2 y2 : Int) : binA Try.prog .eql 77 a b (.agg [.val (.int .i64 x0), .val (.int .i64 x1), .val (.int .i64 x2)]) (.agg [.val (.int .i64 y0), .val (.int .i64 y1), .val (.int .i64 y2)]) = some (.val (.bool (x0 == y0 && (x1 == y1 && (x2 == y2 && true))))) := (bin_agg Try.underlying77 rfl rfl (eq77 ..)).1
@[go_sem high] theorem bq77 {a b : Operand} (x0 y0 : Int) (x1 y1 : Int) (x2 y2 : Int) : binA Try.prog .neq 77 a b (.agg [.val (.int .i64 x0), .val (.int .i64 x1), .val (.int .i64 x2)]) (.agg [.val (.int .i64 y0), .val (.int .i64 y1), .val (.int .i64 y2)]) = some (.val (.bool (!((x0 == y0 && (x1 == y1 && (x2 == y2 && true))))))) := (bin_agg Try.underlying77 rfl rfl (eq77 ..)).2
@[go_sem] theorem el79 : elemA Try.prog 79 = .sl 2 1 := elem_of Try.underlying79 sz2
@[go_sem] theorem ap79 (s x : AV) (H : Hp) : appendA Try.prog 79 79 s x H = appendB 2 1 8 s x H := append_of Try.underlying79 inf2 rfl (by decide) (by decide) s x H
@[go_sem] theorem mk79 (n : Int) : makeA Try.prog 79 n = if 0 ≤ n ∧ (8 : Nat) * n ≤ 281474976710656 ∧ n ≤ 9223372036854775807 then some (List.replicate n.toNat [.val (.int .i64 0)], 2) else none := make_of Try.underlying79 inf2 rfl (by decide) n
@[go_sem] theorem lit79 (len : Nat) (ps : List (Nat × AV)) : litA Try.prog 79 len ps = if len * 1 ≤ 16777216 then (fillE 1 (List.replicate len [.val (.int .i64 0)]) ps).map fun es => (es, 2) else none := lit_of Try.underlying79 inf2 rfl (by decide) len ps
@[go_sem] theorem sl79 (x : AV) (lo hi mx : Option AV) : sliceA Try.prog 79 x lo hi mx = sliceB 1 x lo hi mx := slice_of Try.underlying79 sz2 x lo hi mx
@[go_sem] theorem el83 : elemA Try.prog 83 = .sl 77 3 := elem_of Try.underlying83 sz77
@[go_sem] theorem ap83 (s x : AV) (H : Hp) : appendA Try.prog 83 83 s x H = appendB 77 3 24 s x H := append_of Try.underlying83 inf77 rfl (by decide) (by decide) s x H
@[go_sem] theorem mk83 (n : Int) : makeA Try.prog 83 n = if 0 ≤ n ∧ (24 : Nat) * n ≤ 281474976710656 ∧ n ≤ 9223372036854775807 then some (List.replicate n.toNat [.val (.int .i64 0), .val (.int .i64 0), .val (.int .i64 0)], 77) else none := make_of Try.underlying83 inf77 rfl (by decide) n
@[go_sem] theorem lit83 (len : Nat) (ps : List (Nat × AV)) : litA Try.prog 83 len ps = if len * 3 ≤ 16777216 then (fillE 3 (List.replicate len [.val (.int .i64 0), .val (.int .i64 0), .val (.int .i64 0)]) ps).map fun es => (es, 77) else none := lit_of Try.underlying83 inf77 rfl (by decide) len ps
@[go_sem] theorem sl83 (x : AV) (lo hi mx : Option AV) : sliceA Try.prog 83 x lo hi mx = sliceB 3 x lo hi mx := slice_of Try.underlying83 sz77 x lo hi mx
@[go_sem] theorem el96 : elemA Try.prog 96 = .sl 3 1 := elem_of Try.underlying96 sz3
@[go_sem] theorem ap96 (s x : AV) (H : Hp) : appendA Try.prog 96 96 s x H = appendB 3 1 8 s x H := append_of Try.underlying96 inf3 rfl (by decide) (by decide) s x H
@[go_sem] theorem mk96 (n : Int) : makeA Try.prog 96 n = if 0 ≤ n ∧ (8 : Nat) * n ≤ 281474976710656 ∧ n ≤ 9223372036854775807 then some (List.replicate n.toNat [.val (.int .i64 0)], 3) else none := make_of Try.underlying96 inf3 rfl (by decide) n
@[go_sem] theorem lit96 (len : Nat) (ps : List (Nat × AV)) : litA Try.prog 96 len ps = if len * 1 ≤ 16777216 then (fillE 1 (List.replicate len [.val (.int .i64 0)]) ps).map fun es => (es, 3) else none := lit_of Try.underlying96 inf3 rfl (by decide) len ps
@[go_sem] theorem sl96 (x : AV) (lo hi mx : Option AV) : sliceA Try.prog 96 x lo hi mx = sliceB 1 x lo hi mx := slice_of Try.underlying96 sz3 x lo hi mx
@[go_sem] theorem el99 : elemA Try.prog 99 = .sl 29 2 := elem_of Try.underlying99 sz29
@[go_sem] theorem ap99 (s x : AV) (H : Hp) : appendA Try.prog 99 99 s x H = appendB 29 2 16 s x H := append_of Try.underlying99 inf29 rfl (by decide) (by decide) s x H
@[go_sem] theorem mk99 (n : Int) : makeA Try.prog 99 n = if 0 ≤ n ∧ (16 : Nat) * n ≤ 281474976710656 ∧ n ≤ 9223372036854775807 then some (List.replicate n.toNat [.val (.int .i64 0), .val (.int .i64 0)], 29) else none := make_of Try.underlying99 inf29 rfl (by decide) n
@[go_sem] theorem lit99 (len : Nat) (ps : List (Nat × AV)) : litA Try.prog 99 len ps = if len * 2 ≤ 16777216 then (fillE 2 (List.replicate len [.val (.int .i64 0), .val (.int .i64 0)]) ps).map fun es => (es, 29) else none := lit_of Try.underlying99 inf29 rfl (by decide) len ps
@[go_sem] theorem sl99 (x : AV) (lo hi mx : Option AV) : sliceA Try.prog 99 x lo hi mx = sliceB 2 x lo hi mx := slice_of Try.underlying99 sz29 x lo hi mx

end Go.Proofs.Ytdmgljlabigljaa.Ab
