/- Facts on the types of this seat's program. slices.Insert of one number ahead of the end: what it does to a world. -/
import Derived.Test.YtlhchnnfgppneaaYD
import Derived.Test.YtlhchnnfgppneaaProg
import Derived.Test.YtlhchnnfgppneaaYE
import Derived.WalkKit
import Derived.Shelf.RegionOpenPlain
import Derived.Lib.Walk
import Derived.Lib.SliceRun
import Derived.Lib.JoinLaws
import Derived.Lib.AppendZeros
import Derived.Lib.Overlaps
import Derived.Laws.Externs
import Derived.Laws.IdiomCopy
namespace Go.Proofs.Ytlhchnnfgppneaa.Ab
open Go Go.RowKit Go.Proofs

theorem mixed : Try.prog.follows .mixedOrders = true := by kernel_rfl

theorem bin_agg {t : TypeId} {x y : Operand} {cs ds : List AV} {us vs : Array Value} {r : Bool} {fs : Array Field} (hu : Try.prog.underlying t = some (.struct fs)) (h1 : (AV.agg cs).flat = some (.agg us)) (h2 : (AV.agg ds).flat = some (.agg vs)) (h : aggEq Try.prog t (.agg us) (.agg vs) = some r) :
    binA Try.prog .eql t x y (.agg cs) (.agg ds) = some (.val (.bool r)) ∧ binA Try.prog .neq t x y (.agg cs) (.agg ds) = some (.val (.bool (!r))) := by
  simp [binA, nilKind, nilOf, hu, h1, h2, h]

theorem inf1 : infoA Try.prog 1 = some (some (.nilFunc), 1, 8) := by kernel_rfl
theorem inf2 : infoA Try.prog 2 = some (some (.int .i64 0), 1, 8) := by kernel_rfl
theorem inf3 : infoA Try.prog 3 = some (some (.int .i64 0), 1, 8) := by kernel_rfl
theorem inf4 : infoA Try.prog 4 = some (some (.bool false), 1, 1) := by kernel_rfl
theorem inf5 : infoA Try.prog 5 = some (some (.int .u8 0), 1, 1) := by kernel_rfl
theorem inf9 : infoA Try.prog 9 = some (some (.string ⟨#[]⟩), 1, 16) := by kernel_rfl
theorem inf22 : infoA Try.prog 22 = some (some (.agg #[.int .i64 0, .int .i64 0, .int .i64 0, .int .i64 0, .int .i64 0]), 5, 40) := by kernel_rfl
theorem inf23 : infoA Try.prog 23 = some (some (.agg #[.int .i64 0, .int .i64 0, .int .i64 0, .int .i64 0, .int .i64 0]), 5, 40) := by kernel_rfl
theorem inf24 : infoA Try.prog 24 = some (some (.int .i64 0), 1, 8) := by kernel_rfl
theorem inf27 : infoA Try.prog 27 = some (some (.pointer none), 1, 8) := by kernel_rfl
theorem inf30 : infoA Try.prog 30 = some (some (.pointer none), 1, 8) := by kernel_rfl
theorem inf38 : infoA Try.prog 38 = some (some (.int .u16 0), 1, 2) := by kernel_rfl
theorem inf39 : infoA Try.prog 39 = some (some (.slice none 0 0), 1, 24) := by kernel_rfl
theorem inf40 : infoA Try.prog 40 = some (some (.map none), 1, 8) := by kernel_rfl
theorem inf41 : infoA Try.prog 41 = some (some (.agg #[.int .u8 0, .int .u8 0, .int .u8 0, .int .u8 0, .int .u8 0]), 5, 5) := by kernel_rfl
theorem inf42 : infoA Try.prog 42 = some (some (.agg #[.int .u8 0, .int .u8 0, .int .u8 0, .int .u8 0, .int .u8 0]), 5, 5) := by kernel_rfl
theorem inf44 : infoA Try.prog 44 = some (some (.slice none 0 0), 1, 24) := by kernel_rfl
theorem inf46 : infoA Try.prog 46 = some (some (.slice none 0 0), 1, 24) := by kernel_rfl
theorem inf52 : infoA Try.prog 52 = some (some (.agg #[.int .i64 0, .int .i64 0, .int .i64 0, .int .i64 0, .int .i64 0, .bool false, .int .i64 0]), 7, 56) := by kernel_rfl
theorem inf53 : infoA Try.prog 53 = some (some (.agg #[.int .i64 0, .int .i64 0, .int .i64 0, .int .i64 0, .int .i64 0, .bool false, .int .i64 0]), 7, 56) := by kernel_rfl
theorem inf61 : infoA Try.prog 61 = some (some (.slice none 0 0), 1, 24) := by kernel_rfl
theorem inf63 : infoA Try.prog 63 = some (some (.slice none 0 0), 1, 24) := by kernel_rfl
theorem inf64 : infoA Try.prog 64 = some (some (.agg #[.int .u8 0, .int .i64 0, .int .i64 0, .int .i64 0, .int .i64 0, .int .i64 0, .int .i64 0, .int .i64 0, .int .i64 0, .slice none 0 0]), 10, 96) := by kernel_rfl
theorem inf65 : infoA Try.prog 65 = some (some (.agg #[.int .u8 0, .int .i64 0, .int .i64 0, .int .i64 0, .int .i64 0, .int .i64 0, .int .i64 0, .int .i64 0, .int .i64 0, .slice none 0 0]), 10, 96) := by kernel_rfl
theorem inf69 : infoA Try.prog 69 = some (some (.agg #[.int .i64 0, .int .i64 0]), 2, 16) := by kernel_rfl
theorem inf70 : infoA Try.prog 70 = some (some (.agg #[.int .i64 0, .int .i64 0]), 2, 16) := by kernel_rfl
theorem inf72 : infoA Try.prog 72 = some (some (.agg #[.int .i64 0, .int .i64 0, .slice none 0 0]), 3, 40) := by kernel_rfl
theorem inf73 : infoA Try.prog 73 = some (some (.agg #[.int .i64 0, .int .i64 0, .slice none 0 0]), 3, 40) := by kernel_rfl
theorem inf75 : infoA Try.prog 75 = some (some (.slice none 0 0), 1, 24) := by kernel_rfl
theorem inf76 : infoA Try.prog 76 = some (some (.pointer none), 1, 8) := by kernel_rfl
theorem inf78 : infoA Try.prog 78 = some (some (.pointer none), 1, 8) := by kernel_rfl
theorem inf79 : infoA Try.prog 79 = some (some (.agg #[.slice none 0 0]), 1, 24) := by kernel_rfl
theorem inf80 : infoA Try.prog 80 = some (some (.agg #[.slice none 0 0]), 1, 24) := by kernel_rfl
theorem inf86 : infoA Try.prog 86 = some (some (.slice none 0 0), 1, 24) := by kernel_rfl
theorem inf91 : infoA Try.prog 91 = some (some (.int .u32 0), 1, 4) := by kernel_rfl
theorem inf101 : infoA Try.prog 101 = some (some (.slice none 0 0), 1, 24) := by kernel_rfl
theorem inf102 : infoA Try.prog 102 = some (some (.slice none 0 0), 1, 24) := by kernel_rfl
theorem inf103 : infoA Try.prog 103 = some (some (.agg #[.int .u16 0, .int .u16 0, .bool false, .slice none 0 0]), 4, 32) := by kernel_rfl
theorem inf104 : infoA Try.prog 104 = some (some (.agg #[.int .u16 0, .int .u16 0, .bool false, .slice none 0 0]), 4, 32) := by kernel_rfl
theorem inf106 : infoA Try.prog 106 = some (some (.map none), 1, 8) := by kernel_rfl
theorem inf107 : infoA Try.prog 107 = some (some (.map none), 1, 8) := by kernel_rfl
theorem inf108 : infoA Try.prog 108 = some (some (.agg #[.int .i64 0, .int .i64 0, .int .i64 0, .slice none 0 0, .map none, .map none, .map none]), 7, 72) := by kernel_rfl
theorem inf109 : infoA Try.prog 109 = some (some (.agg #[.int .i64 0, .int .i64 0, .int .i64 0, .slice none 0 0, .map none, .map none, .map none]), 7, 72) := by kernel_rfl
theorem inf111 : infoA Try.prog 111 = some (some (.agg #[.map none]), 1, 8) := by kernel_rfl
theorem inf112 : infoA Try.prog 112 = some (some (.agg #[.map none]), 1, 8) := by kernel_rfl
theorem inf120 : infoA Try.prog 120 = some (some (.nilFunc), 1, 8) := by kernel_rfl
theorem inf123 : infoA Try.prog 123 = some (some (.nilFunc), 1, 8) := by kernel_rfl
theorem inf124 : infoA Try.prog 124 = some (some (.nilFunc), 1, 8) := by kernel_rfl
theorem inf129 : infoA Try.prog 129 = some (some (.nilFunc), 1, 8) := by kernel_rfl
theorem inf158 : infoA Try.prog 158 = some (some (.nilFunc), 1, 8) := by kernel_rfl
theorem inf163 : infoA Try.prog 163 = some (some (.nilFunc), 1, 8) := by kernel_rfl
theorem inf164 : infoA Try.prog 164 = some (some (.nilFunc), 1, 8) := by kernel_rfl
theorem inf174 : infoA Try.prog 174 = some (some (.int .u64 0), 1, 8) := by kernel_rfl
theorem inf178 : infoA Try.prog 178 = some (some (.nilFunc), 1, 8) := by kernel_rfl
theorem inf182 : infoA Try.prog 182 = some (some (.int .i64 0), 1, 8) := by kernel_rfl
theorem inf191 : infoA Try.prog 191 = some (some (.int .u64 0), 1, 8) := by kernel_rfl
theorem inf199 : infoA Try.prog 199 = some (some (.int .u64 0), 1, 8) := by kernel_rfl
theorem inf203 : infoA Try.prog 203 = some (some (.pointer none), 1, 8) := by kernel_rfl
theorem inf207 : infoA Try.prog 207 = some (some (.pointer none), 1, 8) := by kernel_rfl
@[go_sem] theorem sz1 : sizeA Try.prog 1 = some 1 := size_of inf1
@[go_sem] theorem zr1 : zeroA Try.prog 1 = some [.val (.nilFunc)] := zero_of inf1
@[go_sem] theorem ld1 (cs : List AV) (off : Nat) : loadA Try.prog 1 cs off = cs[off]? := load_one Try.underlying1 rfl inf1 cs off
attribute [go_sem] Try.underlying1
@[go_sem] theorem sz2 : sizeA Try.prog 2 = some 1 := size_of inf2
@[go_sem] theorem zr2 : zeroA Try.prog 2 = some [.val (.int .i64 0)] := zero_of inf2
@[go_sem] theorem ld2 (cs : List AV) (off : Nat) : loadA Try.prog 2 cs off = cs[off]? := load_one Try.underlying2 rfl inf2 cs off
attribute [go_sem] Try.underlying2
@[go_sem] theorem sz3 : sizeA Try.prog 3 = some 1 := size_of inf3
@[go_sem] theorem zr3 : zeroA Try.prog 3 = some [.val (.int .i64 0)] := zero_of inf3
@[go_sem] theorem ld3 (cs : List AV) (off : Nat) : loadA Try.prog 3 cs off = cs[off]? := load_one Try.underlying3 rfl inf3 cs off
attribute [go_sem] Try.underlying3
@[go_sem] theorem sz4 : sizeA Try.prog 4 = some 1 := size_of inf4
@[go_sem] theorem zr4 : zeroA Try.prog 4 = some [.val (.bool false)] := zero_of inf4
@[go_sem] theorem ld4 (cs : List AV) (off : Nat) : loadA Try.prog 4 cs off = cs[off]? := load_one Try.underlying4 rfl inf4 cs off
attribute [go_sem] Try.underlying4
@[go_sem] theorem sz5 : sizeA Try.prog 5 = some 1 := size_of inf5
@[go_sem] theorem zr5 : zeroA Try.prog 5 = some [.val (.int .u8 0)] := zero_of inf5
@[go_sem] theorem ld5 (cs : List AV) (off : Nat) : loadA Try.prog 5 cs off = cs[off]? := load_one Try.underlying5 rfl inf5 cs off
attribute [go_sem] Try.underlying5
@[go_sem] theorem sz9 : sizeA Try.prog 9 = some 1 := size_of inf9
@[go_sem] theorem zr9 : zeroA Try.prog 9 = some [.val (.string ⟨#[]⟩)] := zero_of inf9
@[go_sem] theorem ld9 (cs : List AV) (off : Nat) : loadA Try.prog 9 cs off = cs[off]? := load_one Try.underlying9 rfl inf9 cs off
attribute [go_sem] Try.underlying9
@[go_sem] theorem sz22 : sizeA Try.prog 22 = some 5 := size_of inf22
@[go_sem] theorem zr22 : zeroA Try.prog 22 = some [.val (.int .i64 0), .val (.int .i64 0), .val (.int .i64 0), .val (.int .i64 0), .val (.int .i64 0)] := zero_of inf22
@[go_sem] theorem ld22 (cs : List AV) (off : Nat) : loadA Try.prog 22 cs off = if off + 5 ≤ cs.length then some (.agg ((cs.drop off).take 5)) else none := load_agg Try.underlying22 rfl inf22 cs off
@[go_sem] theorem sz23 : sizeA Try.prog 23 = some 5 := size_of inf23
@[go_sem] theorem zr23 : zeroA Try.prog 23 = some [.val (.int .i64 0), .val (.int .i64 0), .val (.int .i64 0), .val (.int .i64 0), .val (.int .i64 0)] := zero_of inf23
@[go_sem] theorem ld23 (cs : List AV) (off : Nat) : loadA Try.prog 23 cs off = if off + 5 ≤ cs.length then some (.agg ((cs.drop off).take 5)) else none := load_agg Try.underlying23 rfl inf23 cs off
@[go_sem] theorem sz24 : sizeA Try.prog 24 = some 1 := size_of inf24
@[go_sem] theorem zr24 : zeroA Try.prog 24 = some [.val (.int .i64 0)] := zero_of inf24
@[go_sem] theorem ld24 (cs : List AV) (off : Nat) : loadA Try.prog 24 cs off = cs[off]? := load_one Try.underlying24 rfl inf24 cs off
attribute [go_sem] Try.underlying24
@[go_sem] theorem sz27 : sizeA Try.prog 27 = some 1 := size_of inf27
@[go_sem] theorem zr27 : zeroA Try.prog 27 = some [.val (.pointer none)] := zero_of inf27
@[go_sem] theorem ld27 (cs : List AV) (off : Nat) : loadA Try.prog 27 cs off = cs[off]? := load_one Try.underlying27 rfl inf27 cs off
attribute [go_sem] Try.underlying27
@[go_sem] theorem sz30 : sizeA Try.prog 30 = some 1 := size_of inf30
@[go_sem] theorem zr30 : zeroA Try.prog 30 = some [.val (.pointer none)] := zero_of inf30
@[go_sem] theorem ld30 (cs : List AV) (off : Nat) : loadA Try.prog 30 cs off = cs[off]? := load_one Try.underlying30 rfl inf30 cs off
attribute [go_sem] Try.underlying30
@[go_sem] theorem sz38 : sizeA Try.prog 38 = some 1 := size_of inf38
@[go_sem] theorem zr38 : zeroA Try.prog 38 = some [.val (.int .u16 0)] := zero_of inf38
@[go_sem] theorem ld38 (cs : List AV) (off : Nat) : loadA Try.prog 38 cs off = cs[off]? := load_one Try.underlying38 rfl inf38 cs off
attribute [go_sem] Try.underlying38
@[go_sem] theorem sz39 : sizeA Try.prog 39 = some 1 := size_of inf39
@[go_sem] theorem zr39 : zeroA Try.prog 39 = some [.val (.slice none 0 0)] := zero_of inf39
@[go_sem] theorem ld39 (cs : List AV) (off : Nat) : loadA Try.prog 39 cs off = cs[off]? := load_one Try.underlying39 rfl inf39 cs off
attribute [go_sem] Try.underlying39
@[go_sem] theorem sz40 : sizeA Try.prog 40 = some 1 := size_of inf40
@[go_sem] theorem zr40 : zeroA Try.prog 40 = some [.val (.map none)] := zero_of inf40
@[go_sem] theorem ld40 (cs : List AV) (off : Nat) : loadA Try.prog 40 cs off = cs[off]? := load_one Try.underlying40 rfl inf40 cs off
attribute [go_sem] Try.underlying40
@[go_sem] theorem sz41 : sizeA Try.prog 41 = some 5 := size_of inf41
@[go_sem] theorem zr41 : zeroA Try.prog 41 = some [.val (.int .u8 0), .val (.int .u8 0), .val (.int .u8 0), .val (.int .u8 0), .val (.int .u8 0)] := zero_of inf41
@[go_sem] theorem ld41 (cs : List AV) (off : Nat) : loadA Try.prog 41 cs off = if off + 5 ≤ cs.length then some (.agg ((cs.drop off).take 5)) else none := load_agg Try.underlying41 rfl inf41 cs off
@[go_sem] theorem sz42 : sizeA Try.prog 42 = some 5 := size_of inf42
@[go_sem] theorem zr42 : zeroA Try.prog 42 = some [.val (.int .u8 0), .val (.int .u8 0), .val (.int .u8 0), .val (.int .u8 0), .val (.int .u8 0)] := zero_of inf42
@[go_sem] theorem ld42 (cs : List AV) (off : Nat) : loadA Try.prog 42 cs off = if off + 5 ≤ cs.length then some (.agg ((cs.drop off).take 5)) else none := load_agg Try.underlying42 rfl inf42 cs off
@[go_sem] theorem sz44 : sizeA Try.prog 44 = some 1 := size_of inf44
@[go_sem] theorem zr44 : zeroA Try.prog 44 = some [.val (.slice none 0 0)] := zero_of inf44
@[go_sem] theorem ld44 (cs : List AV) (off : Nat) : loadA Try.prog 44 cs off = cs[off]? := load_one Try.underlying44 rfl inf44 cs off
attribute [go_sem] Try.underlying44
@[go_sem] theorem sz46 : sizeA Try.prog 46 = some 1 := size_of inf46
@[go_sem] theorem zr46 : zeroA Try.prog 46 = some [.val (.slice none 0 0)] := zero_of inf46
@[go_sem] theorem ld46 (cs : List AV) (off : Nat) : loadA Try.prog 46 cs off = cs[off]? := load_one Try.underlying46 rfl inf46 cs off
attribute [go_sem] Try.underlying46
@[go_sem] theorem sz52 : sizeA Try.prog 52 = some 7 := size_of inf52
@[go_sem] theorem zr52 : zeroA Try.prog 52 = some [.val (.int .i64 0), .val (.int .i64 0), .val (.int .i64 0), .val (.int .i64 0), .val (.int .i64 0), .val (.bool false), .val (.int .i64 0)] := zero_of inf52
@[go_sem] theorem ld52 (cs : List AV) (off : Nat) : loadA Try.prog 52 cs off = if off + 7 ≤ cs.length then some (.agg ((cs.drop off).take 7)) else none := load_agg Try.underlying52 rfl inf52 cs off
@[go_sem] theorem sz53 : sizeA Try.prog 53 = some 7 := size_of inf53
@[go_sem] theorem zr53 : zeroA Try.prog 53 = some [.val (.int .i64 0), .val (.int .i64 0), .val (.int .i64 0), .val (.int .i64 0), .val (.int .i64 0), .val (.bool false), .val (.int .i64 0)] := zero_of inf53
@[go_sem] theorem ld53 (cs : List AV) (off : Nat) : loadA Try.prog 53 cs off = if off + 7 ≤ cs.length then some (.agg ((cs.drop off).take 7)) else none := load_agg Try.underlying53 rfl inf53 cs off
@[go_sem] theorem sz61 : sizeA Try.prog 61 = some 1 := size_of inf61
@[go_sem] theorem zr61 : zeroA Try.prog 61 = some [.val (.slice none 0 0)] := zero_of inf61
@[go_sem] theorem ld61 (cs : List AV) (off : Nat) : loadA Try.prog 61 cs off = cs[off]? := load_one Try.underlying61 rfl inf61 cs off
attribute [go_sem] Try.underlying61
@[go_sem] theorem sz63 : sizeA Try.prog 63 = some 1 := size_of inf63
@[go_sem] theorem zr63 : zeroA Try.prog 63 = some [.val (.slice none 0 0)] := zero_of inf63
@[go_sem] theorem ld63 (cs : List AV) (off : Nat) : loadA Try.prog 63 cs off = cs[off]? := load_one Try.underlying63 rfl inf63 cs off
attribute [go_sem] Try.underlying63
@[go_sem] theorem sz64 : sizeA Try.prog 64 = some 10 := size_of inf64
@[go_sem] theorem zr64 : zeroA Try.prog 64 = some [.val (.int .u8 0), .val (.int .i64 0), .val (.int .i64 0), .val (.int .i64 0), .val (.int .i64 0), .val (.int .i64 0), .val (.int .i64 0), .val (.int .i64 0), .val (.int .i64 0), .val (.slice none 0 0)] := zero_of inf64
@[go_sem] theorem ld64 (cs : List AV) (off : Nat) : loadA Try.prog 64 cs off = if off + 10 ≤ cs.length then some (.agg ((cs.drop off).take 10)) else none := load_agg Try.underlying64 rfl inf64 cs off
@[go_sem] theorem sz65 : sizeA Try.prog 65 = some 10 := size_of inf65
@[go_sem] theorem zr65 : zeroA Try.prog 65 = some [.val (.int .u8 0), .val (.int .i64 0), .val (.int .i64 0), .val (.int .i64 0), .val (.int .i64 0), .val (.int .i64 0), .val (.int .i64 0), .val (.int .i64 0), .val (.int .i64 0), .val (.slice none 0 0)] := zero_of inf65
@[go_sem] theorem ld65 (cs : List AV) (off : Nat) : loadA Try.prog 65 cs off = if off + 10 ≤ cs.length then some (.agg ((cs.drop off).take 10)) else none := load_agg Try.underlying65 rfl inf65 cs off
@[go_sem] theorem sz69 : sizeA Try.prog 69 = some 2 := size_of inf69
@[go_sem] theorem zr69 : zeroA Try.prog 69 = some [.val (.int .i64 0), .val (.int .i64 0)] := zero_of inf69
@[go_sem] theorem ld69 (cs : List AV) (off : Nat) : loadA Try.prog 69 cs off = if off + 2 ≤ cs.length then some (.agg ((cs.drop off).take 2)) else none := load_agg Try.underlying69 rfl inf69 cs off
@[go_sem] theorem sz70 : sizeA Try.prog 70 = some 2 := size_of inf70
@[go_sem] theorem zr70 : zeroA Try.prog 70 = some [.val (.int .i64 0), .val (.int .i64 0)] := zero_of inf70
@[go_sem] theorem ld70 (cs : List AV) (off : Nat) : loadA Try.prog 70 cs off = if off + 2 ≤ cs.length then some (.agg ((cs.drop off).take 2)) else none := load_agg Try.underlying70 rfl inf70 cs off
@[go_sem] theorem sz72 : sizeA Try.prog 72 = some 3 := size_of inf72
@[go_sem] theorem zr72 : zeroA Try.prog 72 = some [.val (.int .i64 0), .val (.int .i64 0), .val (.slice none 0 0)] := zero_of inf72
@[go_sem] theorem ld72 (cs : List AV) (off : Nat) : loadA Try.prog 72 cs off = if off + 3 ≤ cs.length then some (.agg ((cs.drop off).take 3)) else none := load_agg Try.underlying72 rfl inf72 cs off
@[go_sem] theorem sz73 : sizeA Try.prog 73 = some 3 := size_of inf73
@[go_sem] theorem zr73 : zeroA Try.prog 73 = some [.val (.int .i64 0), .val (.int .i64 0), .val (.slice none 0 0)] := zero_of inf73
@[go_sem] theorem ld73 (cs : List AV) (off : Nat) : loadA Try.prog 73 cs off = if off + 3 ≤ cs.length then some (.agg ((cs.drop off).take 3)) else none := load_agg Try.underlying73 rfl inf73 cs off
@[go_sem] theorem sz75 : sizeA Try.prog 75 = some 1 := size_of inf75
@[go_sem] theorem zr75 : zeroA Try.prog 75 = some [.val (.slice none 0 0)] := zero_of inf75
@[go_sem] theorem ld75 (cs : List AV) (off : Nat) : loadA Try.prog 75 cs off = cs[off]? := load_one Try.underlying75 rfl inf75 cs off
attribute [go_sem] Try.underlying75
@[go_sem] theorem sz76 : sizeA Try.prog 76 = some 1 := size_of inf76
@[go_sem] theorem zr76 : zeroA Try.prog 76 = some [.val (.pointer none)] := zero_of inf76
@[go_sem] theorem ld76 (cs : List AV) (off : Nat) : loadA Try.prog 76 cs off = cs[off]? := load_one Try.underlying76 rfl inf76 cs off
attribute [go_sem] Try.underlying76
@[go_sem] theorem sz78 : sizeA Try.prog 78 = some 1 := size_of inf78
@[go_sem] theorem zr78 : zeroA Try.prog 78 = some [.val (.pointer none)] := zero_of inf78
@[go_sem] theorem ld78 (cs : List AV) (off : Nat) : loadA Try.prog 78 cs off = cs[off]? := load_one Try.underlying78 rfl inf78 cs off
attribute [go_sem] Try.underlying78
@[go_sem] theorem sz79 : sizeA Try.prog 79 = some 1 := size_of inf79
@[go_sem] theorem zr79 : zeroA Try.prog 79 = some [.val (.slice none 0 0)] := zero_of inf79
@[go_sem] theorem ld79 (cs : List AV) (off : Nat) : loadA Try.prog 79 cs off = if off + 1 ≤ cs.length then some (.agg ((cs.drop off).take 1)) else none := load_agg Try.underlying79 rfl inf79 cs off
@[go_sem] theorem sz80 : sizeA Try.prog 80 = some 1 := size_of inf80
@[go_sem] theorem zr80 : zeroA Try.prog 80 = some [.val (.slice none 0 0)] := zero_of inf80
@[go_sem] theorem ld80 (cs : List AV) (off : Nat) : loadA Try.prog 80 cs off = if off + 1 ≤ cs.length then some (.agg ((cs.drop off).take 1)) else none := load_agg Try.underlying80 rfl inf80 cs off
@[go_sem] theorem sz86 : sizeA Try.prog 86 = some 1 := size_of inf86
@[go_sem] theorem zr86 : zeroA Try.prog 86 = some [.val (.slice none 0 0)] := zero_of inf86
@[go_sem] theorem ld86 (cs : List AV) (off : Nat) : loadA Try.prog 86 cs off = cs[off]? := load_one Try.underlying86 rfl inf86 cs off
attribute [go_sem] Try.underlying86
@[go_sem] theorem sz91 : sizeA Try.prog 91 = some 1 := size_of inf91
@[go_sem] theorem zr91 : zeroA Try.prog 91 = some [.val (.int .u32 0)] := zero_of inf91
@[go_sem] theorem ld91 (cs : List AV) (off : Nat) : loadA Try.prog 91 cs off = cs[off]? := load_one Try.underlying91 rfl inf91 cs off
attribute [go_sem] Try.underlying91
@[go_sem] theorem sz101 : sizeA Try.prog 101 = some 1 := size_of inf101
@[go_sem] theorem zr101 : zeroA Try.prog 101 = some [.val (.slice none 0 0)] := zero_of inf101
@[go_sem] theorem ld101 (cs : List AV) (off : Nat) : loadA Try.prog 101 cs off = cs[off]? := load_one Try.underlying101 rfl inf101 cs off
attribute [go_sem] Try.underlying101
@[go_sem] theorem sz102 : sizeA Try.prog 102 = some 1 := size_of inf102
@[go_sem] theorem zr102 : zeroA Try.prog 102 = some [.val (.slice none 0 0)] := zero_of inf102
@[go_sem] theorem ld102 (cs : List AV) (off : Nat) : loadA Try.prog 102 cs off = cs[off]? := load_one Try.underlying102 rfl inf102 cs off
attribute [go_sem] Try.underlying102
@[go_sem] theorem sz103 : sizeA Try.prog 103 = some 4 := size_of inf103
@[go_sem] theorem zr103 : zeroA Try.prog 103 = some [.val (.int .u16 0), .val (.int .u16 0), .val (.bool false), .val (.slice none 0 0)] := zero_of inf103
@[go_sem] theorem ld103 (cs : List AV) (off : Nat) : loadA Try.prog 103 cs off = if off + 4 ≤ cs.length then some (.agg ((cs.drop off).take 4)) else none := load_agg Try.underlying103 rfl inf103 cs off
@[go_sem] theorem sz104 : sizeA Try.prog 104 = some 4 := size_of inf104
@[go_sem] theorem zr104 : zeroA Try.prog 104 = some [.val (.int .u16 0), .val (.int .u16 0), .val (.bool false), .val (.slice none 0 0)] := zero_of inf104
@[go_sem] theorem ld104 (cs : List AV) (off : Nat) : loadA Try.prog 104 cs off = if off + 4 ≤ cs.length then some (.agg ((cs.drop off).take 4)) else none := load_agg Try.underlying104 rfl inf104 cs off
@[go_sem] theorem sz106 : sizeA Try.prog 106 = some 1 := size_of inf106
@[go_sem] theorem zr106 : zeroA Try.prog 106 = some [.val (.map none)] := zero_of inf106
@[go_sem] theorem ld106 (cs : List AV) (off : Nat) : loadA Try.prog 106 cs off = cs[off]? := load_one Try.underlying106 rfl inf106 cs off
attribute [go_sem] Try.underlying106
@[go_sem] theorem sz107 : sizeA Try.prog 107 = some 1 := size_of inf107
@[go_sem] theorem zr107 : zeroA Try.prog 107 = some [.val (.map none)] := zero_of inf107
@[go_sem] theorem ld107 (cs : List AV) (off : Nat) : loadA Try.prog 107 cs off = cs[off]? := load_one Try.underlying107 rfl inf107 cs off
attribute [go_sem] Try.underlying107
@[go_sem] theorem sz108 : sizeA Try.prog 108 = some 7 := size_of inf108
@[go_sem] theorem zr108 : zeroA Try.prog 108 = some [.val (.int .i64 0), .val (.int .i64 0), .val (.int .i64 0), .val (.slice none 0 0), .val (.map none), .val (.map none), .val (.map none)] := zero_of inf108
@[go_sem] theorem ld108 (cs : List AV) (off : Nat) : loadA Try.prog 108 cs off = if off + 7 ≤ cs.length then some (.agg ((cs.drop off).take 7)) else none := load_agg Try.underlying108 rfl inf108 cs off
@[go_sem] theorem sz109 : sizeA Try.prog 109 = some 7 := size_of inf109
@[go_sem] theorem zr109 : zeroA Try.prog 109 = some [.val (.int .i64 0), .val (.int .i64 0), .val (.int .i64 0), .val (.slice none 0 0), .val (.map none), .val (.map none), .val (.map none)] := zero_of inf109
@[go_sem] theorem ld109 (cs : List AV) (off : Nat) : loadA Try.prog 109 cs off = if off + 7 ≤ cs.length then some (.agg ((cs.drop off).take 7)) else none := load_agg Try.underlying109 rfl inf109 cs off
@[go_sem] theorem sz111 : sizeA Try.prog 111 = some 1 := size_of inf111
@[go_sem] theorem zr111 : zeroA Try.prog 111 = some [.val (.map none)] := zero_of inf111
@[go_sem] theorem ld111 (cs : List AV) (off : Nat) : loadA Try.prog 111 cs off = if off + 1 ≤ cs.length then some (.agg ((cs.drop off).take 1)) else none := load_agg Try.underlying111 rfl inf111 cs off
@[go_sem] theorem sz112 : sizeA Try.prog 112 = some 1 := size_of inf112
@[go_sem] theorem zr112 : zeroA Try.prog 112 = some [.val (.map none)] := zero_of inf112
@[go_sem] theorem ld112 (cs : List AV) (off : Nat) : loadA Try.prog 112 cs off = if off + 1 ≤ cs.length then some (.agg ((cs.drop off).take 1)) else none := load_agg Try.underlying112 rfl inf112 cs off
@[go_sem] theorem sz120 : sizeA Try.prog 120 = some 1 := size_of inf120
@[go_sem] theorem zr120 : zeroA Try.prog 120 = some [.val (.nilFunc)] := zero_of inf120
@[go_sem] theorem ld120 (cs : List AV) (off : Nat) : loadA Try.prog 120 cs off = cs[off]? := load_one Try.underlying120 rfl inf120 cs off
attribute [go_sem] Try.underlying120
@[go_sem] theorem sz123 : sizeA Try.prog 123 = some 1 := size_of inf123
@[go_sem] theorem zr123 : zeroA Try.prog 123 = some [.val (.nilFunc)] := zero_of inf123
@[go_sem] theorem ld123 (cs : List AV) (off : Nat) : loadA Try.prog 123 cs off = cs[off]? := load_one Try.underlying123 rfl inf123 cs off
attribute [go_sem] Try.underlying123
@[go_sem] theorem sz124 : sizeA Try.prog 124 = some 1 := size_of inf124
@[go_sem] theorem zr124 : zeroA Try.prog 124 = some [.val (.nilFunc)] := zero_of inf124
@[go_sem] theorem ld124 (cs : List AV) (off : Nat) : loadA Try.prog 124 cs off = cs[off]? := load_one Try.underlying124 rfl inf124 cs off
attribute [go_sem] Try.underlying124
@[go_sem] theorem sz129 : sizeA Try.prog 129 = some 1 := size_of inf129
@[go_sem] theorem zr129 : zeroA Try.prog 129 = some [.val (.nilFunc)] := zero_of inf129
@[go_sem] theorem ld129 (cs : List AV) (off : Nat) : loadA Try.prog 129 cs off = cs[off]? := load_one Try.underlying129 rfl inf129 cs off
attribute [go_sem] Try.underlying129
@[go_sem] theorem sz158 : sizeA Try.prog 158 = some 1 := size_of inf158
@[go_sem] theorem zr158 : zeroA Try.prog 158 = some [.val (.nilFunc)] := zero_of inf158
@[go_sem] theorem ld158 (cs : List AV) (off : Nat) : loadA Try.prog 158 cs off = cs[off]? := load_one Try.underlying158 rfl inf158 cs off
attribute [go_sem] Try.underlying158
@[go_sem] theorem sz163 : sizeA Try.prog 163 = some 1 := size_of inf163
@[go_sem] theorem zr163 : zeroA Try.prog 163 = some [.val (.nilFunc)] := zero_of inf163
@[go_sem] theorem ld163 (cs : List AV) (off : Nat) : loadA Try.prog 163 cs off = cs[off]? := load_one Try.underlying163 rfl inf163 cs off
attribute [go_sem] Try.underlying163
@[go_sem] theorem sz164 : sizeA Try.prog 164 = some 1 := size_of inf164
@[go_sem] theorem zr164 : zeroA Try.prog 164 = some [.val (.nilFunc)] := zero_of inf164
@[go_sem] theorem ld164 (cs : List AV) (off : Nat) : loadA Try.prog 164 cs off = cs[off]? := load_one Try.underlying164 rfl inf164 cs off
attribute [go_sem] Try.underlying164
@[go_sem] theorem sz174 : sizeA Try.prog 174 = some 1 := size_of inf174
@[go_sem] theorem zr174 : zeroA Try.prog 174 = some [.val (.int .u64 0)] := zero_of inf174
@[go_sem] theorem ld174 (cs : List AV) (off : Nat) : loadA Try.prog 174 cs off = cs[off]? := load_one Try.underlying174 rfl inf174 cs off
attribute [go_sem] Try.underlying174
@[go_sem] theorem sz178 : sizeA Try.prog 178 = some 1 := size_of inf178
@[go_sem] theorem zr178 : zeroA Try.prog 178 = some [.val (.nilFunc)] := zero_of inf178
@[go_sem] theorem ld178 (cs : List AV) (off : Nat) : loadA Try.prog 178 cs off = cs[off]? := load_one Try.underlying178 rfl inf178 cs off
attribute [go_sem] Try.underlying178
@[go_sem] theorem sz182 : sizeA Try.prog 182 = some 1 := size_of inf182
@[go_sem] theorem zr182 : zeroA Try.prog 182 = some [.val (.int .i64 0)] := zero_of inf182
@[go_sem] theorem ld182 (cs : List AV) (off : Nat) : loadA Try.prog 182 cs off = cs[off]? := load_one Try.underlying182 rfl inf182 cs off
attribute [go_sem] Try.underlying182
@[go_sem] theorem sz191 : sizeA Try.prog 191 = some 1 := size_of inf191
@[go_sem] theorem zr191 : zeroA Try.prog 191 = some [.val (.int .u64 0)] := zero_of inf191
@[go_sem] theorem ld191 (cs : List AV) (off : Nat) : loadA Try.prog 191 cs off = cs[off]? := load_one Try.underlying191 rfl inf191 cs off
attribute [go_sem] Try.underlying191
@[go_sem] theorem sz199 : sizeA Try.prog 199 = some 1 := size_of inf199
@[go_sem] theorem zr199 : zeroA Try.prog 199 = some [.val (.int .u64 0)] := zero_of inf199
@[go_sem] theorem ld199 (cs : List AV) (off : Nat) : loadA Try.prog 199 cs off = cs[off]? := load_one Try.underlying199 rfl inf199 cs off
attribute [go_sem] Try.underlying199
@[go_sem] theorem sz203 : sizeA Try.prog 203 = some 1 := size_of inf203
@[go_sem] theorem zr203 : zeroA Try.prog 203 = some [.val (.pointer none)] := zero_of inf203
@[go_sem] theorem ld203 (cs : List AV) (off : Nat) : loadA Try.prog 203 cs off = cs[off]? := load_one Try.underlying203 rfl inf203 cs off
attribute [go_sem] Try.underlying203
@[go_sem] theorem sz207 : sizeA Try.prog 207 = some 1 := size_of inf207
@[go_sem] theorem zr207 : zeroA Try.prog 207 = some [.val (.pointer none)] := zero_of inf207
@[go_sem] theorem ld207 (cs : List AV) (off : Nat) : loadA Try.prog 207 cs off = cs[off]? := load_one Try.underlying207 rfl inf207 cs off
attribute [go_sem] Try.underlying207
@[go_sem] theorem fo22_0 : fieldOff Try.prog 22 0 = some 0 := field_off Try.underlying22 rfl sz2 (by decide)
@[go_sem] theorem ft22_0 : fieldTO Try.prog 22 0 = some (2, 0) := field_to Try.underlying22 rfl
@[go_sem] theorem fo22_1 : fieldOff Try.prog 22 1 = some 1 := field_off Try.underlying22 rfl sz3 (by decide)
@[go_sem] theorem ft22_1 : fieldTO Try.prog 22 1 = some (3, 1) := field_to Try.underlying22 rfl
@[go_sem] theorem fo22_2 : fieldOff Try.prog 22 2 = some 2 := field_off Try.underlying22 rfl sz2 (by decide)
@[go_sem] theorem ft22_2 : fieldTO Try.prog 22 2 = some (2, 2) := field_to Try.underlying22 rfl
@[go_sem] theorem fo22_3 : fieldOff Try.prog 22 3 = some 3 := field_off Try.underlying22 rfl sz2 (by decide)
@[go_sem] theorem ft22_3 : fieldTO Try.prog 22 3 = some (2, 3) := field_to Try.underlying22 rfl
@[go_sem] theorem fo22_4 : fieldOff Try.prog 22 4 = some 4 := field_off Try.underlying22 rfl sz2 (by decide)
@[go_sem] theorem ft22_4 : fieldTO Try.prog 22 4 = some (2, 4) := field_to Try.underlying22 rfl
@[go_sem] theorem bd22 (ps : List (Nat × AV)) : buildA Try.prog 22 ps = (fillA (fun i => ([(0, 1), (1, 1), (2, 1), (3, 1), (4, 1)] : List (Nat × Nat))[i]?) [.val (.int .i64 0), .val (.int .i64 0), .val (.int .i64 0), .val (.int .i64 0), .val (.int .i64 0)] ps).map .agg := build_of Try.underlying22 inf22 (by simp only [List.map_cons, List.map_nil, sz2, sz3, Option.map_some]) ps
@[go_sem] theorem eq22 (x0 y0 : Int) (x1 y1 : Int) (x2 y2 : Int) (x3 y3 : Int) (x4 y4 : Int) : aggEq Try.prog 22 (.agg #[.int .i64 x0, .int .i64 x1, .int .i64 x2, .int .i64 x3, .int .i64 x4]) (.agg #[.int .i64 y0, .int .i64 y1, .int .i64 y2, .int .i64 y3, .int .i64 y4]) = some (x0 == y0 && (x1 == y1 && (x2 == y2 && (x3 == y3 && (x4 == y4 && true))))) := by kernel_rfl
@[go_sem high] theorem be22 {a b : Operand} (x0 y0 : Int) (x1 y1 : Int) (x2 y2 : Int) (x3 y3 : Int) (x4 y4 : Int) : binA Try.prog .eql 22 a b (.agg [.val (.int .i64 x0), .val (.int .i64 x1), .val (.int .i64 x2), .val (.int .i64 x3), .val (.int .i64 x4)]) (.agg [.val (.int .i64 y0), .val (.int .i64 y1), .val (.int .i64 y2), .val (.int .i64 y3), .val (.int .i64 y4)]) = some (.val (.bool (x0 == y0 && (x1 == y1 && (x2 == y2 && (x3 == y3 && (x4 == y4 && true))))))) := (bin_agg Try.underlying22 rfl rfl (eq22 ..)).1
@[go_sem high] theorem bq22 {a b : Operand} (x0 y0 : Int) (x1 y1 : Int) (x2 y2 : Int) (x3 y3 : Int) (x4 y4 : Int) : binA Try.prog .neq 22 a b (.agg [.val (.int .i64 x0), .val (.int .i64 x1), .val (.int .i64 x2), .val (.int .i64 x3), .val (.int .i64 x4)]) (.agg [.val (.int .i64 y0), .val (.int .i64 y1), .val (.int .i64 y2), .val (.int .i64 y3), .val (.int .i64 y4)]) = some (.val (.bool (!((x0 == y0 && (x1 == y1 && (x2 == y2 && (x3 == y3 && (x4 == y4 && true))))))))) := (bin_agg Try.underlying22 rfl rfl (eq22 ..)).2
@[go_sem] theorem fo23_0 : fieldOff Try.prog 23 0 = some 0 := field_off Try.underlying23 rfl sz2 (by decide)
@[go_sem] theorem ft23_0 : fieldTO Try.prog 23 0 = some (2, 0) := field_to Try.underlying23 rfl
@[go_sem] theorem fo23_1 : fieldOff Try.prog 23 1 = some 1 := field_off Try.underlying23 rfl sz3 (by decide)
@[go_sem] theorem ft23_1 : fieldTO Try.prog 23 1 = some (3, 1) := field_to Try.underlying23 rfl
@[go_sem] theorem fo23_2 : fieldOff Try.prog 23 2 = some 2 := field_off Try.underlying23 rfl sz2 (by decide)
@[go_sem] theorem ft23_2 : fieldTO Try.prog 23 2 = some (2, 2) := field_to Try.underlying23 rfl
@[go_sem] theorem fo23_3 : fieldOff Try.prog 23 3 = some 3 := field_off Try.underlying23 rfl sz2 (by decide)
@[go_sem] theorem ft23_3 : fieldTO Try.prog 23 3 = some (2, 3) := field_to Try.underlying23 rfl
@[go_sem] theorem fo23_4 : fieldOff Try.prog 23 4 = some 4 := field_off Try.underlying23 rfl sz2 (by decide)
@[go_sem] theorem ft23_4 : fieldTO Try.prog 23 4 = some (2, 4) := field_to Try.underlying23 rfl
@[go_sem] theorem bd23 (ps : List (Nat × AV)) : buildA Try.prog 23 ps = (fillA (fun i => ([(0, 1), (1, 1), (2, 1), (3, 1), (4, 1)] : List (Nat × Nat))[i]?) [.val (.int .i64 0), .val (.int .i64 0), .val (.int .i64 0), .val (.int .i64 0), .val (.int .i64 0)] ps).map .agg := build_of Try.underlying23 inf23 (by simp only [List.map_cons, List.map_nil, sz2, sz3, Option.map_some]) ps
@[go_sem] theorem eq23 (x0 y0 : Int) (x1 y1 : Int) (x2 y2 : Int) (x3 y3 : Int) (x4 y4 : Int) : aggEq Try.prog 23 (.agg #[.int .i64 x0, .int .i64 x1, .int .i64 x2, .int .i64 x3, .int .i64 x4]) (.agg #[.int .i64 y0, .int .i64 y1, .int .i64 y2, .int .i64 y3, .int .i64 y4]) = some (x0 == y0 && (x1 == y1 && (x2 == y2 && (x3 == y3 && (x4 == y4 && true))))) := by kernel_rfl
@[go_sem high] theorem be23 {a b : Operand} (x0 y0 : Int) (x1 y1 : Int) (x2 y2 : Int) (x3 y3 : Int) (x4 y4 : Int) : binA Try.prog .eql 23 a b (.agg [.val (.int .i64 x0), .val (.int .i64 x1), .val (.int .i64 x2), .val (.int .i64 x3), .val (.int .i64 x4)]) (.agg [.val (.int .i64 y0), .val (.int .i64 y1), .val (.int .i64 y2), .val (.int .i64 y3), .val (.int .i64 y4)]) = some (.val (.bool (x0 == y0 && (x1 == y1 && (x2 == y2 && (x3 == y3 && (x4 == y4 && true))))))) := (bin_agg Try.underlying23 rfl rfl (eq23 ..)).1
@[go_sem high] theorem bq23 {a b : Operand} (x0 y0 : Int) (x1 y1 : Int) (x2 y2 : Int) (x3 y3 : Int) (x4 y4 : Int) : binA Try.prog .neq 23 a b (.agg [.val (.int .i64 x0), .val (.int .i64 x1), .val (.int .i64 x2), .val (.int .i64 x3), .val (.int .i64 x4)]) (.agg [.val (.int .i64 y0), .val (.int .i64 y1), .val (.int .i64 y2), .val (.int .i64 y3), .val (.int .i64 y4)]) = some (.val (.bool (!((x0 == y0 && (x1 == y1 && (x2 == y2 && (x3 == y3 && (x4 == y4 && true))))))))) := (bin_agg Try.underlying23 rfl rfl (eq23 ..)).2
@[go_sem] theorem el39 : elemA Try.prog 39 = .sl 42 5 := elem_of Try.underlying39 sz42
@[go_sem] theorem ap39 (s x : AV) (H : Hp) : appendA Try.prog 39 39 s x H = appendB 42 5 5 s x H := append_of Try.underlying39 inf42 rfl (by decide) (by decide) s x H
@[go_sem] theorem mk39 (n : Int) : makeA Try.prog 39 n = if 0 ≤ n ∧ (5 : Nat) * n ≤ 281474976710656 ∧ n ≤ 9223372036854775807 then some (List.replicate n.toNat [.val (.int .u8 0), .val (.int .u8 0), .val (.int .u8 0), .val (.int .u8 0), .val (.int .u8 0)], 42) else none := make_of Try.underlying39 inf42 rfl (by decide) n
@[go_sem] theorem lit39 (len : Nat) (ps : List (Nat × AV)) : litA Try.prog 39 len ps = if len * 5 ≤ 16777216 then (fillE 5 (List.replicate len [.val (.int .u8 0), .val (.int .u8 0), .val (.int .u8 0), .val (.int .u8 0), .val (.int .u8 0)]) ps).map fun es => (es, 42) else none := lit_of Try.underlying39 inf42 rfl (by decide) len ps
@[go_sem] theorem sl39 (x : AV) (lo hi mx : Option AV) : sliceA Try.prog 39 x lo hi mx = sliceB 5 x lo hi mx := slice_of Try.underlying39 sz42 x lo hi mx
@[go_sem] theorem fo41_0 : fieldOff Try.prog 41 0 = some 0 := field_off Try.underlying41 rfl sz5 (by decide)
@[go_sem] theorem ft41_0 : fieldTO Try.prog 41 0 = some (5, 0) := field_to Try.underlying41 rfl
@[go_sem] theorem fo41_1 : fieldOff Try.prog 41 1 = some 1 := field_off Try.underlying41 rfl sz5 (by decide)
@[go_sem] theorem ft41_1 : fieldTO Try.prog 41 1 = some (5, 1) := field_to Try.underlying41 rfl
@[go_sem] theorem fo41_2 : fieldOff Try.prog 41 2 = some 2 := field_off Try.underlying41 rfl sz5 (by decide)
@[go_sem] theorem ft41_2 : fieldTO Try.prog 41 2 = some (5, 2) := field_to Try.underlying41 rfl
@[go_sem] theorem fo41_3 : fieldOff Try.prog 41 3 = some 3 := field_off Try.underlying41 rfl sz5 (by decide)
@[go_sem] theorem ft41_3 : fieldTO Try.prog 41 3 = some (5, 3) := field_to Try.underlying41 rfl
@[go_sem] theorem fo41_4 : fieldOff Try.prog 41 4 = some 4 := field_off Try.underlying41 rfl sz5 (by decide)
@[go_sem] theorem ft41_4 : fieldTO Try.prog 41 4 = some (5, 4) := field_to Try.underlying41 rfl
@[go_sem] theorem bd41 (ps : List (Nat × AV)) : buildA Try.prog 41 ps = (fillA (fun i => ([(0, 1), (1, 1), (2, 1), (3, 1), (4, 1)] : List (Nat × Nat))[i]?) [.val (.int .u8 0), .val (.int .u8 0), .val (.int .u8 0), .val (.int .u8 0), .val (.int .u8 0)] ps).map .agg := build_of Try.underlying41 inf41 (by simp only [List.map_cons, List.map_nil, sz5, Option.map_some]) ps
@[go_sem] theorem eq41 (x0 y0 : Int) (x1 y1 : Int) (x2 y2 : Int) (x3 y3 : Int) (x4 y4 : Int) : aggEq Try.prog 41 (.agg #[.int .u8 x0, .int .u8 x1, .int .u8 x2, .int .u8 x3, .int .u8 x4]) (.agg #[.int .u8 y0, .int .u8 y1, .int .u8 y2, .int .u8 y3, .int .u8 y4]) = some (x0 == y0 && (x1 == y1 && (x2 == y2 && (x3 == y3 && (x4 == y4 && true))))) := by kernel_rfl
@[go_sem high] theorem be41 {a b : Operand} (x0 y0 : Int) (x1 y1 : Int) (x2 y2 : Int) (x3 y3 : Int) (x4 y4 : Int) : binA Try.prog .eql 41 a b (.agg [.val (.int .u8 x0), .val (.int .u8 x1), .val (.int .u8 x2), .val (.int .u8 x3), .val (.int .u8 x4)]) (.agg [.val (.int .u8 y0), .val (.int .u8 y1), .val (.int .u8 y2), .val (.int .u8 y3), .val (.int .u8 y4)]) = some (.val (.bool (x0 == y0 && (x1 == y1 && (x2 == y2 && (x3 == y3 && (x4 == y4 && true))))))) := (bin_agg Try.underlying41 rfl rfl (eq41 ..)).1
@[go_sem high] theorem bq41 {a b : Operand} (x0 y0 : Int) (x1 y1 : Int) (x2 y2 : Int) (x3 y3 : Int) (x4 y4 : Int) : binA Try.prog .neq 41 a b (.agg [.val (.int .u8 x0), .val (.int .u8 x1), .val (.int .u8 x2), .val (.int .u8 x3), .val (.int .u8 x4)]) (.agg [.val (.int .u8 y0), .val (.int .u8 y1), .val (.int .u8 y2), .val (.int .u8 y3), .val (.int .u8 y4)]) = some (.val (.bool (!((x0 == y0 && (x1 == y1 && (x2 == y2 && (x3 == y3 && (x4 == y4 && true))))))))) := (bin_agg Try.underlying41 rfl rfl (eq41 ..)).2
@[go_sem] theorem fo42_0 : fieldOff Try.prog 42 0 = some 0 := field_off Try.underlying42 rfl sz5 (by decide)
@[go_sem] theorem ft42_0 : fieldTO Try.prog 42 0 = some (5, 0) := field_to Try.underlying42 rfl
@[go_sem] theorem fo42_1 : fieldOff Try.prog 42 1 = some 1 := field_off Try.underlying42 rfl sz5 (by decide)
@[go_sem] theorem ft42_1 : fieldTO Try.prog 42 1 = some (5, 1) := field_to Try.underlying42 rfl
@[go_sem] theorem fo42_2 : fieldOff Try.prog 42 2 = some 2 := field_off Try.underlying42 rfl sz5 (by decide)
@[go_sem] theorem ft42_2 : fieldTO Try.prog 42 2 = some (5, 2) := field_to Try.underlying42 rfl
@[go_sem] theorem fo42_3 : fieldOff Try.prog 42 3 = some 3 := field_off Try.underlying42 rfl sz5 (by decide)
@[go_sem] theorem ft42_3 : fieldTO Try.prog 42 3 = some (5, 3) := field_to Try.underlying42 rfl
@[go_sem] theorem fo42_4 : fieldOff Try.prog 42 4 = some 4 := field_off Try.underlying42 rfl sz5 (by decide)
@[go_sem] theorem ft42_4 : fieldTO Try.prog 42 4 = some (5, 4) := field_to Try.underlying42 rfl
@[go_sem] theorem bd42 (ps : List (Nat × AV)) : buildA Try.prog 42 ps = (fillA (fun i => ([(0, 1), (1, 1), (2, 1), (3, 1), (4, 1)] : List (Nat × Nat))[i]?) [.val (.int .u8 0), .val (.int .u8 0), .val (.int .u8 0), .val (.int .u8 0), .val (.int .u8 0)] ps).map .agg := build_of Try.underlying42 inf42 (by simp only [List.map_cons, List.map_nil, sz5, Option.map_some]) ps
@[go_sem] theorem eq42 (x0 y0 : Int) (x1 y1 : Int) (x2 y2 : Int) (x3 y3 : Int) (x4 y4 : Int) : aggEq Try.prog 42 (.agg #[.int .u8 x0, .int .u8 x1, .int .u8 x2, .int .u8 x3, .int .u8 x4]) (.agg #[.int .u8 y0, .int .u8 y1, .int .u8 y2, .int .u8 y3, .int .u8 y4]) = some (x0 == y0 && (x1 == y1 && (x2 == y2 && (x3 == y3 && (x4 == y4 && true))))) := by kernel_rfl
@[go_sem high] theorem be42 {a b : Operand} (x0 y0 : Int) (x1 y1 : Int) (x2 y2 : Int) (x3 y3 : Int) (x4 y4 : Int) : binA Try.prog .eql 42 a b (.agg [.val (.int .u8 x0), .val (.int .u8 x1), .val (.int .u8 x2), .val (.int .u8 x3), .val (.int .u8 x4)]) (.agg [.val (.int .u8 y0), .val (.int .u8 y1), .val (.int .u8 y2), .val (.int .u8 y3), .val (.int .u8 y4)]) = some (.val (.bool (x0 == y0 && (x1 == y1 && (x2 == y2 && (x3 == y3 && (x4 == y4 && true))))))) := (bin_agg Try.underlying42 rfl rfl (eq42 ..)).1
@[go_sem high] theorem bq42 {a b : Operand} (x0 y0 : Int) (x1 y1 : Int) (x2 y2 : Int) (x3 y3 : Int) (x4 y4 : Int) : binA Try.prog .neq 42 a b (.agg [.val (.int .u8 x0), .val (.int .u8 x1), .val (.int .u8 x2), .val (.int .u8 x3), .val (.int .u8 x4)]) (.agg [.val (.int .u8 y0), .val (.int .u8 y1), .val (.int .u8 y2), .val (.int .u8 y3), .val (.int .u8 y4)]) = some (.val (.bool (!((x0 == y0 && (x1 == y1 && (x2 == y2 && (x3 == y3 && (x4 == y4 && true))))))))) := (bin_agg Try.underlying42 rfl rfl (eq42 ..)).2
@[go_sem] theorem el44 : elemA Try.prog 44 = .sl 53 7 := elem_of Try.underlying44 sz53
@[go_sem] theorem ap44 (s x : AV) (H : Hp) : appendA Try.prog 44 44 s x H = appendB 53 7 56 s x H := append_of Try.underlying44 inf53 rfl (by decide) (by decide) s x H
@[go_sem] theorem mk44 (n : Int) : makeA Try.prog 44 n = if 0 ≤ n ∧ (56 : Nat) * n ≤ 281474976710656 ∧ n ≤ 9223372036854775807 then some (List.replicate n.toNat [.val (.int .i64 0), .val (.int .i64 0), .val (.int .i64 0), .val (.int .i64 0), .val (.int .i64 0), .val (.bool false), .val (.int .i64 0)], 53) else none := make_of Try.underlying44 inf53 rfl (by decide) n
@[go_sem] theorem lit44 (len : Nat) (ps : List (Nat × AV)) : litA Try.prog 44 len ps = if len * 7 ≤ 16777216 then (fillE 7 (List.replicate len [.val (.int .i64 0), .val (.int .i64 0), .val (.int .i64 0), .val (.int .i64 0), .val (.int .i64 0), .val (.bool false), .val (.int .i64 0)]) ps).map fun es => (es, 53) else none := lit_of Try.underlying44 inf53 rfl (by decide) len ps
@[go_sem] theorem sl44 (x : AV) (lo hi mx : Option AV) : sliceA Try.prog 44 x lo hi mx = sliceB 7 x lo hi mx := slice_of Try.underlying44 sz53 x lo hi mx
@[go_sem] theorem el46 : elemA Try.prog 46 = .sl 2 1 := elem_of Try.underlying46 sz2
@[go_sem] theorem ap46 (s x : AV) (H : Hp) : appendA Try.prog 46 46 s x H = appendB 2 1 8 s x H := append_of Try.underlying46 inf2 rfl (by decide) (by decide) s x H
@[go_sem] theorem mk46 (n : Int) : makeA Try.prog 46 n = if 0 ≤ n ∧ (8 : Nat) * n ≤ 281474976710656 ∧ n ≤ 9223372036854775807 then some (List.replicate n.toNat [.val (.int .i64 0)], 2) else none := make_of Try.underlying46 inf2 rfl (by decide) n
@[go_sem] theorem lit46 (len : Nat) (ps : List (Nat × AV)) : litA Try.prog 46 len ps = if len * 1 ≤ 16777216 then (fillE 1 (List.replicate len [.val (.int .i64 0)]) ps).map fun es => (es, 2) else none := lit_of Try.underlying46 inf2 rfl (by decide) len ps
@[go_sem] theorem sl46 (x : AV) (lo hi mx : Option AV) : sliceA Try.prog 46 x lo hi mx = sliceB 1 x lo hi mx := slice_of Try.underlying46 sz2 x lo hi mx
@[go_sem] theorem fo52_0 : fieldOff Try.prog 52 0 = some 0 := field_off Try.underlying52 rfl sz23 (by decide)
@[go_sem] theorem ft52_0 : fieldTO Try.prog 52 0 = some (23, 0) := field_to Try.underlying52 rfl
@[go_sem] theorem fo52_1 : fieldOff Try.prog 52 1 = some 5 := field_off Try.underlying52 rfl sz4 (by decide)
@[go_sem] theorem ft52_1 : fieldTO Try.prog 52 1 = some (4, 5) := field_to Try.underlying52 rfl
@[go_sem] theorem fo52_2 : fieldOff Try.prog 52 2 = some 6 := field_off Try.underlying52 rfl sz2 (by decide)
@[go_sem] theorem ft52_2 : fieldTO Try.prog 52 2 = some (2, 6) := field_to Try.underlying52 rfl
@[go_sem] theorem bd52 (ps : List (Nat × AV)) : buildA Try.prog 52 ps = (fillA (fun i => ([(0, 5), (5, 1), (6, 1)] : List (Nat × Nat))[i]?) [.val (.int .i64 0), .val (.int .i64 0), .val (.int .i64 0), .val (.int .i64 0), .val (.int .i64 0), .val (.bool false), .val (.int .i64 0)] ps).map .agg := build_of Try.underlying52 inf52 (by simp only [List.map_cons, List.map_nil, sz2, sz4, sz23, Option.map_some]) ps
@[go_sem] theorem eq52 (x0 y0 : Int) (x1 y1 : Int) (x2 y2 : Int) (x3 y3 : Int) (x4 y4 : Int) (x5 y5 : Bool) (x6 y6 : Int) : aggEq Try.prog 52 (.agg #[.int .i64 x0, .int .i64 x1, .int .i64 x2, .int .i64 x3, .int .i64 x4, .bool x5, .int .i64 x6]) (.agg #[.int .i64 y0, .int .i64 y1, .int .i64 y2, .int .i64 y3, .int .i64 y4, .bool y5, .int .i64 y6]) = some ((x0 == y0 && (x1 == y1 && (x2 == y2 && (x3 == y3 && (x4 == y4 && true))))) && (x5 == y5 && (x6 == y6 && true))) := by kernel_rfl
@[go_sem high] theorem be52 {a b : Operand} (x0 y0 : Int) (x1 y1 : Int) (x2 y2 : Int) (x3 y3 : Int) (x4 y4 : Int) (x5 y5 : Bool) (x6 y6 : Int) : binA Try.prog .eql 52 a b (.agg [.val (.int .i64 x0), .val (.int .i64 x1), .val (.int .i64 x2), .val (.int .i64 x3), .val (.int .i64 x4), .val (.bool x5), .val (.int .i64 x6)]) (.agg [.val (.int .i64 y0), .val (.int .i64 y1), .val (.int .i64 y2), .val (.int .i64 y3), .val (.int .i64 y4), .val (.bool y5), .val (.int .i64 y6)]) = some (.val (.bool ((x0 == y0 && (x1 == y1 && (x2 == y2 && (x3 == y3 && (x4 == y4 && true))))) && (x5 == y5 && (x6 == y6 && true))))) := (bin_agg Try.underlying52 rfl rfl (eq52 ..)).1
@[go_sem high] theorem bq52 {a b : Operand} (x0 y0 : Int) (x1 y1 : Int) (x2 y2 : Int) (x3 y3 : Int) (x4 y4 : Int) (x5 y5 : Bool) (x6 y6 : Int) : binA Try.prog .neq 52 a b (.agg [.val (.int .i64 x0), .val (.int .i64 x1), .val (.int .i64 x2), .val (.int .i64 x3), .val (.int .i64 x4), .val (.bool x5), .val (.int .i64 x6)]) (.agg [.val (.int .i64 y0), .val (.int .i64 y1), .val (.int .i64 y2), .val (.int .i64 y3), .val (.int .i64 y4), .val (.bool y5), .val (.int .i64 y6)]) = some (.val (.bool (!(((x0 == y0 && (x1 == y1 && (x2 == y2 && (x3 == y3 && (x4 == y4 && true))))) && (x5 == y5 && (x6 == y6 && true))))))) := (bin_agg Try.underlying52 rfl rfl (eq52 ..)).2
@[go_sem] theorem fo53_0 : fieldOff Try.prog 53 0 = some 0 := field_off Try.underlying53 rfl sz23 (by decide)
@[go_sem] theorem ft53_0 : fieldTO Try.prog 53 0 = some (23, 0) := field_to Try.underlying53 rfl
@[go_sem] theorem fo53_1 : fieldOff Try.prog 53 1 = some 5 := field_off Try.underlying53 rfl sz4 (by decide)
@[go_sem] theorem ft53_1 : fieldTO Try.prog 53 1 = some (4, 5) := field_to Try.underlying53 rfl
@[go_sem] theorem fo53_2 : fieldOff Try.prog 53 2 = some 6 := field_off Try.underlying53 rfl sz2 (by decide)
@[go_sem] theorem ft53_2 : fieldTO Try.prog 53 2 = some (2, 6) := field_to Try.underlying53 rfl
@[go_sem] theorem bd53 (ps : List (Nat × AV)) : buildA Try.prog 53 ps = (fillA (fun i => ([(0, 5), (5, 1), (6, 1)] : List (Nat × Nat))[i]?) [.val (.int .i64 0), .val (.int .i64 0), .val (.int .i64 0), .val (.int .i64 0), .val (.int .i64 0), .val (.bool false), .val (.int .i64 0)] ps).map .agg := build_of Try.underlying53 inf53 (by simp only [List.map_cons, List.map_nil, sz2, sz4, sz23, Option.map_some]) ps
@[go_sem] theorem eq53 (x0 y0 : Int) (x1 y1 : Int) (x2 y2 : Int) (x3 y3 : Int) (x4 y4 : Int) (x5 y5 : Bool) (x6 y6 : Int) : aggEq Try.prog 53 (.agg #[.int .i64 x0, .int .i64 x1, .int .i64 x2, .int .i64 x3, .int .i64 x4, .bool x5, .int .i64 x6]) (.agg #[.int .i64 y0, .int .i64 y1, .int .i64 y2, .int .i64 y3, .int .i64 y4, .bool y5, .int .i64 y6]) = some ((x0 == y0 && (x1 == y1 && (x2 == y2 && (x3 == y3 && (x4 == y4 && true))))) && (x5 == y5 && (x6 == y6 && true))) := by kernel_rfl
@[go_sem high] theorem be53 {a b : Operand} (x0 y0 : Int) (x1 y1 : Int) (x2 y2 : Int) (x3 y3 : Int) (x4 y4 : Int) (x5 y5 : Bool) (x6 y6 : Int) : binA Try.prog .eql 53 a b (.agg [.val (.int .i64 x0), .val (.int .i64 x1), .val (.int .i64 x2), .val (.int .i64 x3), .val (.int .i64 x4), .val (.bool x5), .val (.int .i64 x6)]) (.agg [.val (.int .i64 y0), .val (.int .i64 y1), .val (.int .i64 y2), .val (.int .i64 y3), .val (.int .i64 y4), .val (.bool y5), .val (.int .i64 y6)]) = some (.val (.bool ((x0 == y0 && (x1 == y1 && (x2 == y2 && (x3 == y3 && (x4 == y4 && true))))) && (x5 == y5 && (x6 == y6 && true))))) := (bin_agg Try.underlying53 rfl rfl (eq53 ..)).1
@[go_sem high] theorem bq53 {a b : Operand} (x0 y0 : Int) (x1 y1 : Int) (x2 y2 : Int) (x3 y3 : Int) (x4 y4 : Int) (x5 y5 : Bool) (x6 y6 : Int) : binA Try.prog .neq 53 a b (.agg [.val (.int .i64 x0), .val (.int .i64 x1), .val (.int .i64 x2), .val (.int .i64 x3), .val (.int .i64 x4), .val (.bool x5), .val (.int .i64 x6)]) (.agg [.val (.int .i64 y0), .val (.int .i64 y1), .val (.int .i64 y2), .val (.int .i64 y3), .val (.int .i64 y4), .val (.bool y5), .val (.int .i64 y6)]) = some (.val (.bool (!(((x0 == y0 && (x1 == y1 && (x2 == y2 && (x3 == y3 && (x4 == y4 && true))))) && (x5 == y5 && (x6 == y6 && true))))))) := (bin_agg Try.underlying53 rfl rfl (eq53 ..)).2
@[go_sem] theorem el61 : elemA Try.prog 61 = .sl 65 10 := elem_of Try.underlying61 sz65
@[go_sem] theorem ap61 (s x : AV) (H : Hp) : appendA Try.prog 61 61 s x H = appendB 65 10 96 s x H := append_of Try.underlying61 inf65 rfl (by decide) (by decide) s x H
@[go_sem] theorem mk61 (n : Int) : makeA Try.prog 61 n = if 0 ≤ n ∧ (96 : Nat) * n ≤ 281474976710656 ∧ n ≤ 9223372036854775807 then some (List.replicate n.toNat [.val (.int .u8 0), .val (.int .i64 0), .val (.int .i64 0), .val (.int .i64 0), .val (.int .i64 0), .val (.int .i64 0), .val (.int .i64 0), .val (.int .i64 0), .val (.int .i64 0), .val (.slice none 0 0)], 65) else none := make_of Try.underlying61 inf65 rfl (by decide) n
@[go_sem] theorem lit61 (len : Nat) (ps : List (Nat × AV)) : litA Try.prog 61 len ps = if len * 10 ≤ 16777216 then (fillE 10 (List.replicate len [.val (.int .u8 0), .val (.int .i64 0), .val (.int .i64 0), .val (.int .i64 0), .val (.int .i64 0), .val (.int .i64 0), .val (.int .i64 0), .val (.int .i64 0), .val (.int .i64 0), .val (.slice none 0 0)]) ps).map fun es => (es, 65) else none := lit_of Try.underlying61 inf65 rfl (by decide) len ps
@[go_sem] theorem sl61 (x : AV) (lo hi mx : Option AV) : sliceA Try.prog 61 x lo hi mx = sliceB 10 x lo hi mx := slice_of Try.underlying61 sz65 x lo hi mx
@[go_sem] theorem el63 : elemA Try.prog 63 = .sl 70 2 := elem_of Try.underlying63 sz70
@[go_sem] theorem ap63 (s x : AV) (H : Hp) : appendA Try.prog 63 63 s x H = appendB 70 2 16 s x H := append_of Try.underlying63 inf70 rfl (by decide) (by decide) s x H
@[go_sem] theorem mk63 (n : Int) : makeA Try.prog 63 n = if 0 ≤ n ∧ (16 : Nat) * n ≤ 281474976710656 ∧ n ≤ 9223372036854775807 then some (List.replicate n.toNat [.val (.int .i64 0), .val (.int .i64 0)], 70) else none := make_of Try.underlying63 inf70 rfl (by decide) n
@[go_sem] theorem lit63 (len : Nat) (ps : List (Nat × AV)) : litA Try.prog 63 len ps = if len * 2 ≤ 16777216 then (fillE 2 (List.replicate len [.val (.int .i64 0), .val (.int .i64 0)]) ps).map fun es => (es, 70) else none := lit_of Try.underlying63 inf70 rfl (by decide) len ps
@[go_sem] theorem sl63 (x : AV) (lo hi mx : Option AV) : sliceA Try.prog 63 x lo hi mx = sliceB 2 x lo hi mx := slice_of Try.underlying63 sz70 x lo hi mx
@[go_sem] theorem fo64_0 : fieldOff Try.prog 64 0 = some 0 := field_off Try.underlying64 rfl sz5 (by decide)
@[go_sem] theorem ft64_0 : fieldTO Try.prog 64 0 = some (5, 0) := field_to Try.underlying64 rfl
@[go_sem] theorem fo64_1 : fieldOff Try.prog 64 1 = some 1 := field_off Try.underlying64 rfl sz23 (by decide)
@[go_sem] theorem ft64_1 : fieldTO Try.prog 64 1 = some (23, 1) := field_to Try.underlying64 rfl
@[go_sem] theorem fo64_2 : fieldOff Try.prog 64 2 = some 6 := field_off Try.underlying64 rfl sz2 (by decide)
@[go_sem] theorem ft64_2 : fieldTO Try.prog 64 2 = some (2, 6) := field_to Try.underlying64 rfl
@[go_sem] theorem fo64_3 : fieldOff Try.prog 64 3 = some 7 := field_off Try.underlying64 rfl sz2 (by decide)
@[go_sem] theorem ft64_3 : fieldTO Try.prog 64 3 = some (2, 7) := field_to Try.underlying64 rfl
@[go_sem] theorem fo64_4 : fieldOff Try.prog 64 4 = some 8 := field_off Try.underlying64 rfl sz2 (by decide)
@[go_sem] theorem ft64_4 : fieldTO Try.prog 64 4 = some (2, 8) := field_to Try.underlying64 rfl
@[go_sem] theorem fo64_5 : fieldOff Try.prog 64 5 = some 9 := field_off Try.underlying64 rfl sz63 (by decide)
@[go_sem] theorem ft64_5 : fieldTO Try.prog 64 5 = some (63, 9) := field_to Try.underlying64 rfl
@[go_sem] theorem bd64 (ps : List (Nat × AV)) : buildA Try.prog 64 ps = (fillA (fun i => ([(0, 1), (1, 5), (6, 1), (7, 1), (8, 1), (9, 1)] : List (Nat × Nat))[i]?) [.val (.int .u8 0), .val (.int .i64 0), .val (.int .i64 0), .val (.int .i64 0), .val (.int .i64 0), .val (.int .i64 0), .val (.int .i64 0), .val (.int .i64 0), .val (.int .i64 0), .val (.slice none 0 0)] ps).map .agg := build_of Try.underlying64 inf64 (by simp only [List.map_cons, List.map_nil, sz2, sz5, sz23, sz63, Option.map_some]) ps
@[go_sem] theorem fo65_0 : fieldOff Try.prog 65 0 = some 0 := field_off Try.underlying65 rfl sz5 (by decide)
@[go_sem] theorem ft65_0 : fieldTO Try.prog 65 0 = some (5, 0) := field_to Try.underlying65 rfl
@[go_sem] theorem fo65_1 : fieldOff Try.prog 65 1 = some 1 := field_off Try.underlying65 rfl sz23 (by decide)
@[go_sem] theorem ft65_1 : fieldTO Try.prog 65 1 = some (23, 1) := field_to Try.underlying65 rfl
@[go_sem] theorem fo65_2 : fieldOff Try.prog 65 2 = some 6 := field_off Try.underlying65 rfl sz2 (by decide)
@[go_sem] theorem ft65_2 : fieldTO Try.prog 65 2 = some (2, 6) := field_to Try.underlying65 rfl
@[go_sem] theorem fo65_3 : fieldOff Try.prog 65 3 = some 7 := field_off Try.underlying65 rfl sz2 (by decide)
@[go_sem] theorem ft65_3 : fieldTO Try.prog 65 3 = some (2, 7) := field_to Try.underlying65 rfl
@[go_sem] theorem fo65_4 : fieldOff Try.prog 65 4 = some 8 := field_off Try.underlying65 rfl sz2 (by decide)
@[go_sem] theorem ft65_4 : fieldTO Try.prog 65 4 = some (2, 8) := field_to Try.underlying65 rfl
@[go_sem] theorem fo65_5 : fieldOff Try.prog 65 5 = some 9 := field_off Try.underlying65 rfl sz63 (by decide)
@[go_sem] theorem ft65_5 : fieldTO Try.prog 65 5 = some (63, 9) := field_to Try.underlying65 rfl
@[go_sem] theorem bd65 (ps : List (Nat × AV)) : buildA Try.prog 65 ps = (fillA (fun i => ([(0, 1), (1, 5), (6, 1), (7, 1), (8, 1), (9, 1)] : List (Nat × Nat))[i]?) [.val (.int .u8 0), .val (.int .i64 0), .val (.int .i64 0), .val (.int .i64 0), .val (.int .i64 0), .val (.int .i64 0), .val (.int .i64 0), .val (.int .i64 0), .val (.int .i64 0), .val (.slice none 0 0)] ps).map .agg := build_of Try.underlying65 inf65 (by simp only [List.map_cons, List.map_nil, sz2, sz5, sz23, sz63, Option.map_some]) ps
@[go_sem] theorem fo69_0 : fieldOff Try.prog 69 0 = some 0 := field_off Try.underlying69 rfl sz2 (by decide)
@[go_sem] theorem ft69_0 : fieldTO Try.prog 69 0 = some (2, 0) := field_to Try.underlying69 rfl
@[go_sem] theorem fo69_1 : fieldOff Try.prog 69 1 = some 1 := field_off Try.underlying69 rfl sz2 (by decide)
@[go_sem] theorem ft69_1 : fieldTO Try.prog 69 1 = some (2, 1) := field_to Try.underlying69 rfl
@[go_sem] theorem bd69 (ps : List (Nat × AV)) : buildA Try.prog 69 ps = (fillA (fun i => ([(0, 1), (1, 1)] : List (Nat × Nat))[i]?) [.val (.int .i64 0), .val (.int .i64 0)] ps).map .agg := build_of Try.underlying69 inf69 (by simp only [List.map_cons, List.map_nil, sz2, Option.map_some]) ps
@[go_sem] theorem eq69 (x0 y0 : Int) (x1 y1 : Int) : aggEq Try.prog 69 (.agg #[.int .i64 x0, .int .i64 x1]) (.agg #[.int .i64 y0, .int .i64 y1]) = some (x0 == y0 && (x1 == y1 && true)) := by kernel_rfl
@[go_sem high] theorem be69 {a b : Operand} (x0 y0 : Int) (x1 y1 : Int) : binA Try.prog .eql 69 a b (.agg [.val (.int .i64 x0), .val (.int .i64 x1)]) (.agg [.val (.int .i64 y0), .val (.int .i64 y1)]) = some (.val (.bool (x0 == y0 && (x1 == y1 && true)))) := (bin_agg Try.underlying69 rfl rfl (eq69 ..)).1
@[go_sem high] theorem bq69 {a b : Operand} (x0 y0 : Int) (x1 y1 : Int) : binA Try.prog .neq 69 a b (.agg [.val (.int .i64 x0), .val (.int .i64 x1)]) (.agg [.val (.int .i64 y0), .val (.int .i64 y1)]) = some (.val (.bool (!((x0 == y0 && (x1 == y1 && true)))))) := (bin_agg Try.underlying69 rfl rfl (eq69 ..)).2
@[go_sem] theorem fo70_0 : fieldOff Try.prog 70 0 = some 0 := field_off Try.underlying70 rfl sz2 (by decide)
@[go_sem] theorem ft70_0 : fieldTO Try.prog 70 0 = some (2, 0) := field_to Try.underlying70 rfl
@[go_sem] theorem fo70_1 : fieldOff Try.prog 70 1 = some 1 := field_off Try.underlying70 rfl sz2 (by decide)
@[go_sem] theorem ft70_1 : fieldTO Try.prog 70 1 = some (2, 1) := field_to Try.underlying70 rfl
@[go_sem] theorem bd70 (ps : List (Nat × AV)) : buildA Try.prog 70 ps = (fillA (fun i => ([(0, 1), (1, 1)] : List (Nat × Nat))[i]?) [.val (.int .i64 0), .val (.int .i64 0)] ps).map .agg := build_of Try.underlying70 inf70 (by simp only [List.map_cons, List.map_nil, sz2, Option.map_some]) ps
@[go_sem] theorem eq70 (x0 y0 : Int) (x1 y1 : Int) : aggEq Try.prog 70 (.agg #[.int .i64 x0, .int .i64 x1]) (.agg #[.int .i64 y0, .int .i64 y1]) = some (x0 == y0 && (x1 == y1 && true)) := by kernel_rfl
@[go_sem high] theorem be70 {a b : Operand} (x0 y0 : Int) (x1 y1 : Int) : binA Try.prog .eql 70 a b (.agg [.val (.int .i64 x0), .val (.int .i64 x1)]) (.agg [.val (.int .i64 y0), .val (.int .i64 y1)]) = some (.val (.bool (x0 == y0 && (x1 == y1 && true)))) := (bin_agg Try.underlying70 rfl rfl (eq70 ..)).1
@[go_sem high] theorem bq70 {a b : Operand} (x0 y0 : Int) (x1 y1 : Int) : binA Try.prog .neq 70 a b (.agg [.val (.int .i64 x0), .val (.int .i64 x1)]) (.agg [.val (.int .i64 y0), .val (.int .i64 y1)]) = some (.val (.bool (!((x0 == y0 && (x1 == y1 && true)))))) := (bin_agg Try.underlying70 rfl rfl (eq70 ..)).2
@[go_sem] theorem fo72_0 : fieldOff Try.prog 72 0 = some 0 := field_off Try.underlying72 rfl sz2 (by decide)
@[go_sem] theorem ft72_0 : fieldTO Try.prog 72 0 = some (2, 0) := field_to Try.underlying72 rfl
@[go_sem] theorem fo72_1 : fieldOff Try.prog 72 1 = some 1 := field_off Try.underlying72 rfl sz2 (by decide)
@[go_sem] theorem ft72_1 : fieldTO Try.prog 72 1 = some (2, 1) := field_to Try.underlying72 rfl
@[go_sem] theorem fo72_2 : fieldOff Try.prog 72 2 = some 2 := field_off Try.underlying72 rfl sz44 (by decide)
@[go_sem] theorem ft72_2 : fieldTO Try.prog 72 2 = some (44, 2) := field_to Try.underlying72 rfl
@[go_sem] theorem bd72 (ps : List (Nat × AV)) : buildA Try.prog 72 ps = (fillA (fun i => ([(0, 1), (1, 1), (2, 1)] : List (Nat × Nat))[i]?) [.val (.int .i64 0), .val (.int .i64 0), .val (.slice none 0 0)] ps).map .agg := build_of Try.underlying72 inf72 (by simp only [List.map_cons, List.map_nil, sz2, sz44, Option.map_some]) ps
@[go_sem] theorem fo73_0 : fieldOff Try.prog 73 0 = some 0 := field_off Try.underlying73 rfl sz2 (by decide)
@[go_sem] theorem ft73_0 : fieldTO Try.prog 73 0 = some (2, 0) := field_to Try.underlying73 rfl
@[go_sem] theorem fo73_1 : fieldOff Try.prog 73 1 = some 1 := field_off Try.underlying73 rfl sz2 (by decide)
@[go_sem] theorem ft73_1 : fieldTO Try.prog 73 1 = some (2, 1) := field_to Try.underlying73 rfl
@[go_sem] theorem fo73_2 : fieldOff Try.prog 73 2 = some 2 := field_off Try.underlying73 rfl sz44 (by decide)
@[go_sem] theorem ft73_2 : fieldTO Try.prog 73 2 = some (44, 2) := field_to Try.underlying73 rfl
@[go_sem] theorem bd73 (ps : List (Nat × AV)) : buildA Try.prog 73 ps = (fillA (fun i => ([(0, 1), (1, 1), (2, 1)] : List (Nat × Nat))[i]?) [.val (.int .i64 0), .val (.int .i64 0), .val (.slice none 0 0)] ps).map .agg := build_of Try.underlying73 inf73 (by simp only [List.map_cons, List.map_nil, sz2, sz44, Option.map_some]) ps
@[go_sem] theorem el75 : elemA Try.prog 75 = .sl 23 5 := elem_of Try.underlying75 sz23
@[go_sem] theorem ap75 (s x : AV) (H : Hp) : appendA Try.prog 75 75 s x H = appendB 23 5 40 s x H := append_of Try.underlying75 inf23 rfl (by decide) (by decide) s x H
@[go_sem] theorem mk75 (n : Int) : makeA Try.prog 75 n = if 0 ≤ n ∧ (40 : Nat) * n ≤ 281474976710656 ∧ n ≤ 9223372036854775807 then some (List.replicate n.toNat [.val (.int .i64 0), .val (.int .i64 0), .val (.int .i64 0), .val (.int .i64 0), .val (.int .i64 0)], 23) else none := make_of Try.underlying75 inf23 rfl (by decide) n
@[go_sem] theorem lit75 (len : Nat) (ps : List (Nat × AV)) : litA Try.prog 75 len ps = if len * 5 ≤ 16777216 then (fillE 5 (List.replicate len [.val (.int .i64 0), .val (.int .i64 0), .val (.int .i64 0), .val (.int .i64 0), .val (.int .i64 0)]) ps).map fun es => (es, 23) else none := lit_of Try.underlying75 inf23 rfl (by decide) len ps
@[go_sem] theorem sl75 (x : AV) (lo hi mx : Option AV) : sliceA Try.prog 75 x lo hi mx = sliceB 5 x lo hi mx := slice_of Try.underlying75 sz23 x lo hi mx
@[go_sem] theorem fo79_0 : fieldOff Try.prog 79 0 = some 0 := field_off Try.underlying79 rfl sz75 (by decide)
@[go_sem] theorem ft79_0 : fieldTO Try.prog 79 0 = some (75, 0) := field_to Try.underlying79 rfl
@[go_sem] theorem bd79 (ps : List (Nat × AV)) : buildA Try.prog 79 ps = (fillA (fun i => ([(0, 1)] : List (Nat × Nat))[i]?) [.val (.slice none 0 0)] ps).map .agg := build_of Try.underlying79 inf79 (by simp only [List.map_cons, List.map_nil, sz75, Option.map_some]) ps
@[go_sem] theorem fo80_0 : fieldOff Try.prog 80 0 = some 0 := field_off Try.underlying80 rfl sz75 (by decide)
@[go_sem] theorem ft80_0 : fieldTO Try.prog 80 0 = some (75, 0) := field_to Try.underlying80 rfl
@[go_sem] theorem bd80 (ps : List (Nat × AV)) : buildA Try.prog 80 ps = (fillA (fun i => ([(0, 1)] : List (Nat × Nat))[i]?) [.val (.slice none 0 0)] ps).map .agg := build_of Try.underlying80 inf80 (by simp only [List.map_cons, List.map_nil, sz75, Option.map_some]) ps
@[go_sem] theorem el86 : elemA Try.prog 86 = .sl 3 1 := elem_of Try.underlying86 sz3
@[go_sem] theorem ap86 (s x : AV) (H : Hp) : appendA Try.prog 86 86 s x H = appendB 3 1 8 s x H := append_of Try.underlying86 inf3 rfl (by decide) (by decide) s x H
@[go_sem] theorem mk86 (n : Int) : makeA Try.prog 86 n = if 0 ≤ n ∧ (8 : Nat) * n ≤ 281474976710656 ∧ n ≤ 9223372036854775807 then some (List.replicate n.toNat [.val (.int .i64 0)], 3) else none := make_of Try.underlying86 inf3 rfl (by decide) n
@[go_sem] theorem lit86 (len : Nat) (ps : List (Nat × AV)) : litA Try.prog 86 len ps = if len * 1 ≤ 16777216 then (fillE 1 (List.replicate len [.val (.int .i64 0)]) ps).map fun es => (es, 3) else none := lit_of Try.underlying86 inf3 rfl (by decide) len ps
@[go_sem] theorem sl86 (x : AV) (lo hi mx : Option AV) : sliceA Try.prog 86 x lo hi mx = sliceB 1 x lo hi mx := slice_of Try.underlying86 sz3 x lo hi mx
@[go_sem] theorem el101 : elemA Try.prog 101 = .sl 104 4 := elem_of Try.underlying101 sz104
@[go_sem] theorem ap101 (s x : AV) (H : Hp) : appendA Try.prog 101 101 s x H = appendB 104 4 32 s x H := append_of Try.underlying101 inf104 rfl (by decide) (by decide) s x H
@[go_sem] theorem mk101 (n : Int) : makeA Try.prog 101 n = if 0 ≤ n ∧ (32 : Nat) * n ≤ 281474976710656 ∧ n ≤ 9223372036854775807 then some (List.replicate n.toNat [.val (.int .u16 0), .val (.int .u16 0), .val (.bool false), .val (.slice none 0 0)], 104) else none := make_of Try.underlying101 inf104 rfl (by decide) n
@[go_sem] theorem lit101 (len : Nat) (ps : List (Nat × AV)) : litA Try.prog 101 len ps = if len * 4 ≤ 16777216 then (fillE 4 (List.replicate len [.val (.int .u16 0), .val (.int .u16 0), .val (.bool false), .val (.slice none 0 0)]) ps).map fun es => (es, 104) else none := lit_of Try.underlying101 inf104 rfl (by decide) len ps
@[go_sem] theorem sl101 (x : AV) (lo hi mx : Option AV) : sliceA Try.prog 101 x lo hi mx = sliceB 4 x lo hi mx := slice_of Try.underlying101 sz104 x lo hi mx
@[go_sem] theorem el102 : elemA Try.prog 102 = .sl 4 1 := elem_of Try.underlying102 sz4
@[go_sem] theorem ap102 (s x : AV) (H : Hp) : appendA Try.prog 102 102 s x H = appendB 4 1 1 s x H := append_of Try.underlying102 inf4 rfl (by decide) (by decide) s x H
@[go_sem] theorem mk102 (n : Int) : makeA Try.prog 102 n = if 0 ≤ n ∧ (1 : Nat) * n ≤ 281474976710656 ∧ n ≤ 9223372036854775807 then some (List.replicate n.toNat [.val (.bool false)], 4) else none := make_of Try.underlying102 inf4 rfl (by decide) n
@[go_sem] theorem lit102 (len : Nat) (ps : List (Nat × AV)) : litA Try.prog 102 len ps = if len * 1 ≤ 16777216 then (fillE 1 (List.replicate len [.val (.bool false)]) ps).map fun es => (es, 4) else none := lit_of Try.underlying102 inf4 rfl (by decide) len ps
@[go_sem] theorem sl102 (x : AV) (lo hi mx : Option AV) : sliceA Try.prog 102 x lo hi mx = sliceB 1 x lo hi mx := slice_of Try.underlying102 sz4 x lo hi mx
@[go_sem] theorem fo103_0 : fieldOff Try.prog 103 0 = some 0 := field_off Try.underlying103 rfl sz38 (by decide)
@[go_sem] theorem ft103_0 : fieldTO Try.prog 103 0 = some (38, 0) := field_to Try.underlying103 rfl
@[go_sem] theorem fo103_1 : fieldOff Try.prog 103 1 = some 1 := field_off Try.underlying103 rfl sz38 (by decide)
@[go_sem] theorem ft103_1 : fieldTO Try.prog 103 1 = some (38, 1) := field_to Try.underlying103 rfl
@[go_sem] theorem fo103_2 : fieldOff Try.prog 103 2 = some 2 := field_off Try.underlying103 rfl sz4 (by decide)
@[go_sem] theorem ft103_2 : fieldTO Try.prog 103 2 = some (4, 2) := field_to Try.underlying103 rfl
@[go_sem] theorem fo103_3 : fieldOff Try.prog 103 3 = some 3 := field_off Try.underlying103 rfl sz39 (by decide)
@[go_sem] theorem ft103_3 : fieldTO Try.prog 103 3 = some (39, 3) := field_to Try.underlying103 rfl
@[go_sem] theorem bd103 (ps : List (Nat × AV)) : buildA Try.prog 103 ps = (fillA (fun i => ([(0, 1), (1, 1), (2, 1), (3, 1)] : List (Nat × Nat))[i]?) [.val (.int .u16 0), .val (.int .u16 0), .val (.bool false), .val (.slice none 0 0)] ps).map .agg := build_of Try.underlying103 inf103 (by simp only [List.map_cons, List.map_nil, sz4, sz38, sz39, Option.map_some]) ps
@[go_sem] theorem fo104_0 : fieldOff Try.prog 104 0 = some 0 := field_off Try.underlying104 rfl sz38 (by decide)
@[go_sem] theorem ft104_0 : fieldTO Try.prog 104 0 = some (38, 0) := field_to Try.underlying104 rfl
@[go_sem] theorem fo104_1 : fieldOff Try.prog 104 1 = some 1 := field_off Try.underlying104 rfl sz38 (by decide)
@[go_sem] theorem ft104_1 : fieldTO Try.prog 104 1 = some (38, 1) := field_to Try.underlying104 rfl
@[go_sem] theorem fo104_2 : fieldOff Try.prog 104 2 = some 2 := field_off Try.underlying104 rfl sz4 (by decide)
@[go_sem] theorem ft104_2 : fieldTO Try.prog 104 2 = some (4, 2) := field_to Try.underlying104 rfl
@[go_sem] theorem fo104_3 : fieldOff Try.prog 104 3 = some 3 := field_off Try.underlying104 rfl sz39 (by decide)
@[go_sem] theorem ft104_3 : fieldTO Try.prog 104 3 = some (39, 3) := field_to Try.underlying104 rfl
@[go_sem] theorem bd104 (ps : List (Nat × AV)) : buildA Try.prog 104 ps = (fillA (fun i => ([(0, 1), (1, 1), (2, 1), (3, 1)] : List (Nat × Nat))[i]?) [.val (.int .u16 0), .val (.int .u16 0), .val (.bool false), .val (.slice none 0 0)] ps).map .agg := build_of Try.underlying104 inf104 (by simp only [List.map_cons, List.map_nil, sz4, sz38, sz39, Option.map_some]) ps
@[go_sem] theorem fo108_0 : fieldOff Try.prog 108 0 = some 0 := field_off Try.underlying108 rfl sz2 (by decide)
@[go_sem] theorem ft108_0 : fieldTO Try.prog 108 0 = some (2, 0) := field_to Try.underlying108 rfl
@[go_sem] theorem fo108_1 : fieldOff Try.prog 108 1 = some 1 := field_off Try.underlying108 rfl sz2 (by decide)
@[go_sem] theorem ft108_1 : fieldTO Try.prog 108 1 = some (2, 1) := field_to Try.underlying108 rfl
@[go_sem] theorem fo108_2 : fieldOff Try.prog 108 2 = some 2 := field_off Try.underlying108 rfl sz2 (by decide)
@[go_sem] theorem ft108_2 : fieldTO Try.prog 108 2 = some (2, 2) := field_to Try.underlying108 rfl
@[go_sem] theorem fo108_3 : fieldOff Try.prog 108 3 = some 3 := field_off Try.underlying108 rfl sz46 (by decide)
@[go_sem] theorem ft108_3 : fieldTO Try.prog 108 3 = some (46, 3) := field_to Try.underlying108 rfl
@[go_sem] theorem fo108_4 : fieldOff Try.prog 108 4 = some 4 := field_off Try.underlying108 rfl sz40 (by decide)
@[go_sem] theorem ft108_4 : fieldTO Try.prog 108 4 = some (40, 4) := field_to Try.underlying108 rfl
@[go_sem] theorem fo108_5 : fieldOff Try.prog 108 5 = some 5 := field_off Try.underlying108 rfl sz106 (by decide)
@[go_sem] theorem ft108_5 : fieldTO Try.prog 108 5 = some (106, 5) := field_to Try.underlying108 rfl
@[go_sem] theorem fo108_6 : fieldOff Try.prog 108 6 = some 6 := field_off Try.underlying108 rfl sz107 (by decide)
@[go_sem] theorem ft108_6 : fieldTO Try.prog 108 6 = some (107, 6) := field_to Try.underlying108 rfl
@[go_sem] theorem bd108 (ps : List (Nat × AV)) : buildA Try.prog 108 ps = (fillA (fun i => ([(0, 1), (1, 1), (2, 1), (3, 1), (4, 1), (5, 1), (6, 1)] : List (Nat × Nat))[i]?) [.val (.int .i64 0), .val (.int .i64 0), .val (.int .i64 0), .val (.slice none 0 0), .val (.map none), .val (.map none), .val (.map none)] ps).map .agg := build_of Try.underlying108 inf108 (by simp only [List.map_cons, List.map_nil, sz2, sz40, sz46, sz106, sz107, Option.map_some]) ps
@[go_sem] theorem fo109_0 : fieldOff Try.prog 109 0 = some 0 := field_off Try.underlying109 rfl sz2 (by decide)
@[go_sem] theorem ft109_0 : fieldTO Try.prog 109 0 = some (2, 0) := field_to Try.underlying109 rfl
@[go_sem] theorem fo109_1 : fieldOff Try.prog 109 1 = some 1 := field_off Try.underlying109 rfl sz2 (by decide)
@[go_sem] theorem ft109_1 : fieldTO Try.prog 109 1 = some (2, 1) := field_to Try.underlying109 rfl
@[go_sem] theorem fo109_2 : fieldOff Try.prog 109 2 = some 2 := field_off Try.underlying109 rfl sz2 (by decide)
@[go_sem] theorem ft109_2 : fieldTO Try.prog 109 2 = some (2, 2) := field_to Try.underlying109 rfl
@[go_sem] theorem fo109_3 : fieldOff Try.prog 109 3 = some 3 := field_off Try.underlying109 rfl sz46 (by decide)
@[go_sem] theorem ft109_3 : fieldTO Try.prog 109 3 = some (46, 3) := field_to Try.underlying109 rfl
@[go_sem] theorem fo109_4 : fieldOff Try.prog 109 4 = some 4 := field_off Try.underlying109 rfl sz40 (by decide)
@[go_sem] theorem ft109_4 : fieldTO Try.prog 109 4 = some (40, 4) := field_to Try.underlying109 rfl
@[go_sem] theorem fo109_5 : fieldOff Try.prog 109 5 = some 5 := field_off Try.underlying109 rfl sz106 (by decide)
@[go_sem] theorem ft109_5 : fieldTO Try.prog 109 5 = some (106, 5) := field_to Try.underlying109 rfl
@[go_sem] theorem fo109_6 : fieldOff Try.prog 109 6 = some 6 := field_off Try.underlying109 rfl sz107 (by decide)
@[go_sem] theorem ft109_6 : fieldTO Try.prog 109 6 = some (107, 6) := field_to Try.underlying109 rfl
@[go_sem] theorem bd109 (ps : List (Nat × AV)) : buildA Try.prog 109 ps = (fillA (fun i => ([(0, 1), (1, 1), (2, 1), (3, 1), (4, 1), (5, 1), (6, 1)] : List (Nat × Nat))[i]?) [.val (.int .i64 0), .val (.int .i64 0), .val (.int .i64 0), .val (.slice none 0 0), .val (.map none), .val (.map none), .val (.map none)] ps).map .agg := build_of Try.underlying109 inf109 (by simp only [List.map_cons, List.map_nil, sz2, sz40, sz46, sz106, sz107, Option.map_some]) ps
@[go_sem] theorem fo111_0 : fieldOff Try.prog 111 0 = some 0 := field_off Try.underlying111 rfl sz40 (by decide)
@[go_sem] theorem ft111_0 : fieldTO Try.prog 111 0 = some (40, 0) := field_to Try.underlying111 rfl
@[go_sem] theorem bd111 (ps : List (Nat × AV)) : buildA Try.prog 111 ps = (fillA (fun i => ([(0, 1)] : List (Nat × Nat))[i]?) [.val (.map none)] ps).map .agg := build_of Try.underlying111 inf111 (by simp only [List.map_cons, List.map_nil, sz40, Option.map_some]) ps
@[go_sem] theorem fo112_0 : fieldOff Try.prog 112 0 = some 0 := field_off Try.underlying112 rfl sz40 (by decide)
@[go_sem] theorem ft112_0 : fieldTO Try.prog 112 0 = some (40, 0) := field_to Try.underlying112 rfl
@[go_sem] theorem bd112 (ps : List (Nat × AV)) : buildA Try.prog 112 ps = (fillA (fun i => ([(0, 1)] : List (Nat × Nat))[i]?) [.val (.map none)] ps).map .agg := build_of Try.underlying112 inf112 (by simp only [List.map_cons, List.map_nil, sz40, Option.map_some]) ps

end Go.Proofs.Ytlhchnnfgppneaa.Ab
namespace Go.Proofs.Ytlhchnnfgppneaa.Ab
open Go Go.RowKit Go.Proofs Go.Lib
set_option linter.unusedSimpArgs false
set_option linter.unusedVariables false

theorem i_at46 : Try.prog.underlying 46 = some (.slice 2) := by kernel_rfl
theorem i_at2 : Try.prog.underlying 2 = some (.int .i64) := by kernel_rfl
theorem i_at3 : Try.prog.underlying 3 = some (.int .i64) := by kernel_rfl
theorem i_at4 : Try.prog.underlying 4 = some .bool := by kernel_rfl
theorem i_sz46 (w : World) : (Go.sizeOf 46).run Try.prog w = .ok 1 w := by kernel_rfl
theorem i_sz2 (w : World) : (Go.sizeOf 2).run Try.prog w = .ok 1 w := by kernel_rfl
theorem i_sz3 (w : World) : (Go.sizeOf 3).run Try.prog w = .ok 1 w := by kernel_rfl
theorem i_sz4 (w : World) : (Go.sizeOf 4).run Try.prog w = .ok 1 w := by kernel_rfl
theorem i_ag46 (w : World) : (isAgg 46).run Try.prog w = .ok false w := by kernel_rfl
theorem i_ag2 (w : World) : (isAgg 2).run Try.prog w = .ok false w := by kernel_rfl
theorem i_ag3 (w : World) : (isAgg 3).run Try.prog w = .ok false w := by kernel_rfl
theorem i_ag4 (w : World) : (isAgg 4).run Try.prog w = .ok false w := by kernel_rfl
theorem i_zv46 (w : World) : (zeroValue 46).run Try.prog w = .ok (.slice none 0 0) w := by kernel_rfl
theorem i_zv2 (w : World) : (zeroValue 2).run Try.prog w = .ok (.int .i64 0) w := by kernel_rfl
theorem i_zv3 (w : World) : (zeroValue 3).run Try.prog w = .ok (.int .i64 0) w := by kernel_rfl
theorem i_zv4 (w : World) : (zeroValue 4).run Try.prog w = .ok (.bool false) w := by kernel_rfl
theorem i_inf2 : (Try.prog.info? 2).map (fun i => (i.zero, i.size, i.bytes)) = some (some (.int .i64 0), 1, 8) := by kernel_rfl

/-- copy(d, s), where its run is known -/
theorem copy_step (w : World) {ops : Array Oper} {rest : List Oper} {o : Oper} {a : Act} {Q : Exit → Act → World → Prop} (hgd : o.guard = none) (d s : Operand) (t t' : TypeId)
    (ho : o.op = .call { callee := .builtin .copy, args := #[d, s], argTypes := #[t, t'] }) (v u : Value) (hd : a.eval d = v) (hs : a.eval s = u) {v' : Value} {w' : World}
    (hr : (Builtin.copy_ #[t, t'] o.type #[v, u]).run Try.prog w = .ok v' w') (h : wpList Try.prog ops Q rest (a.put o.dst v') w') : wpList Try.prog ops Q (o :: rest) a w :=
  wpList_plain hgd fun _ hK => by
    unfold Oper.wp execOp
    simp only [ho, resolve, invoke, builtin, Sem.run_bind, Sem.run_pure, Result.andThen_ok, List.map_toArray, List.map_cons, List.map_nil, hd, hs, hr]
    exact hK _ _ h

/-- the same as one step of a region that draws -/
theorem copy_any {ops : Array Oper} {o : Oper} {a : Act} {w : World} {K : Act → World → Prop} {Q : Exit → Act → World → Prop} {E : Prop}
    (hg : o.guard = none) (d x : Operand) (dT sT : TypeId) (hop : o.op = Op.call { callee := Callee.builtin Builtin.copy, args := #[d, x], argTypes := #[dT, sT] })
    (v u : Value) (hd : a.eval d = v) (hx : a.eval x = u) {v' : Value} {w' : World} (hr : (Builtin.copy_ #[dT, sT] o.type #[v, u]).run Try.prog w = .ok v' w') (hK : K (a.put o.dst v') w') :
    if Region.wanted o (yielded ops a.tmps) = true then Oper.wp Try.prog o a w K Q else E := by
  have hw : Region.wanted o (yielded ops a.tmps) = true := by simp [Region.wanted, hg]
  rw [if_pos hw]
  unfold Oper.wp
  simp [execOp, hop, resolve, invoke, builtin, hd, hx, hr, Result.andThen]
  exact hK

theorem some_setCells (b : Nat) (vs : List Value) (o : Nat) (w : World) (h : ∀ j, j < vs.length → (w.cell? ⟨b, o + j, none⟩).isSome = true) (k : Nat) (hk : (w.cell? ⟨b, k, none⟩).isSome = true) : ((w.setCells b o vs).cell? ⟨b, k, none⟩).isSome = true := by
  by_cases hin : o ≤ k ∧ k < o + vs.length
  · have := World.cell?_setCells_in b vs o w h (k - o) (by omega)
    rw [show o + (k - o) = k by omega] at this
    rw [this]; rfl
  · rw [World.cell?_setCells_out b vs o w ⟨b, k, none⟩ (fun _ _ => by show k < o ∨ o + vs.length ≤ k; omega)]
    exact hk


set_option maxHeartbeats 4000000 in
set_option maxRecDepth 100000 in
/-- there is room: in place -/
theorem insert_room (b off n c i vb voff vc : Nat) (cs : List Value) (y : Value) (w : World) (hi : i < n) (hroom : n + 1 ≤ c) (hc63 : c ≤ 9223372036854775807) (hvb : vb ≠ b) (hcl : cs.length = n)
    (hcs : ∀ j v, cs[j]? = some v → w.cell? ⟨b, off + j, none⟩ = some v) (hsp : ∀ j, j < n + 1 → (w.cell? ⟨b, off + j, none⟩).isSome = true) (hfz : ∀ j, j < n + 1 → w.frozen? ⟨b, off + j, none⟩ = false)
    (hy : w.cell? ⟨vb, voff, none⟩ = some y) (h1c : ∀ v ∈ cs, v.oneCell' = true) (h1y : y.oneCell' = true)
    (tA tB : TypeId) (kA kB : Nat) (hsa : w.shape? vb = some (tA, kA)) (hsb : w.shape? b = some (tB, kB)) (hkB : kB ≠ 0) (hfa : w.frozen? ⟨vb, voff, none⟩ = false) (hfe : w.frozen? ⟨vb, kA, none⟩ = false) :
    Calls Try.prog 59 #[.slice (some ⟨b, off, none⟩) n c, .int .i64 i, .slice (some ⟨vb, voff, none⟩) 1 vc] w fun e w' =>
      e = .returned (.slice (some ⟨b, off, none⟩) (n + 1) c) ∧ w' = (w.drew.setCells b (off + (i + 1)) (cs.drop i)).setCells b (off + i) [y] := by
  have a46 := i_ag46; have z46 := i_sz46; have v46 := i_zv46; have a2 := i_ag2; have z2 := i_sz2; have v2 := i_zv2; have a3 := i_ag3; have z3 := i_sz3; have v3 := i_zv3; have a4 := i_ag4; have z4 := i_sz4; have v4 := i_zv4
  have t46 := i_at46; have t2 := i_at2; have t3 := i_at3; have t4 := i_at4
  have u46 := run_underlying i_at46; have u2 := run_underlying i_at2; have u3 := run_underlying i_at3; have u4 := run_underlying i_at4
  have hz2 : ¬ ((i : Int) = (n : Int)) := by omega
  have hsz : (Try.prog.info? 2).map (·.size) = some 1 := by
    obtain ⟨i0, hi0, h0, h1, h2⟩ := info_parts i_inf2
    rw [hi0]; simp [h1]
  have hov : ∀ lb cb, (callFunc 94 #[.slice (some ⟨vb, voff, none⟩) 1 vc, .slice (some ⟨b, off + (i + 1), none⟩) lb cb]).run Try.prog w = .ok (.value (.bool false)) w := fun lb cb => by
    rw [run_callFunc_extern Try.func94 (by kernel_rfl) (by kernel_rfl) (by kernel_rfl) (e := Extern.SlicesOverlaps.overlaps #[46, 46] #[4]) (by kernel_rfl),
      Lib.run_overlaps_apart w 46 4 2 i_at46 1 i_sz2 ⟨vb, voff, none⟩ ⟨b, off + (i + 1), none⟩ 1 vc lb cb hvb tA tB kA kB hsa hsb hkB hfa hfe]
    rfl
  have hdl : (cs.drop i).length = n - i := by rw [List.length_drop, hcl]
  have mixed : Try.prog.follows .mixedOrders = true := by kernel_rfl
  have hw1 : IntKind.i64.wrap ((i : Int) + 1) = (i : Int) + 1 := by rw [IntKind.wrap_i64]; omega
  have hw2 : IntKind.i64.wrap ((n : Int) + 1) = (n : Int) + 1 := by rw [IntKind.wrap_i64]; omega
  have hb1 : (0 : Int) ≤ (i : Int) + 1 := by omega
  have hb0 : (0 : Int) ≤ (n : Int) + 1 := by omega
  have hin : i ≤ n := by omega
  have htn : ((i : Int) + 1).toNat = i + 1 := by omega
  have htm : ((n : Int) + 1).toNat = n + 1 := by omega
  have hb2 : ¬ (c = i + 1) := by omega
  have hb3 : (i : Int) ≤ (n : Int) + 1 := by omega
  have hb4 : ¬ (c = i) := by omega
  have hng : ¬ ((c : Int) < (n : Int) + 1) := by omega
  have hcp1 : ∀ ty dc sc, (Builtin.copy_ #[46, 46] ty #[.slice (some ⟨b, off + (i + 1), none⟩) (n - i) dc, .slice (some ⟨b, off + i, none⟩) (n + 1 - i) sc]).run Try.prog w.drew = .ok (goInt (cs.drop i).length) (w.drew.setCells b (off + (i + 1)) (cs.drop i)) := fun ty dc sc =>
    run_copy_cells w.drew _ _ ty 2 b (off + (i + 1)) (n - i) dc ⟨b, off + i, none⟩ (n + 1 - i) sc (cs.drop i) i_at46 hsz (by rw [hdl]; simp only [Nat.min_def]; split <;> omega)
      (fun j v hj => by rw [Addr.add_lit, Nat.add_assoc]; exact hcs (i + j) v (by rwa [List.getElem?_drop] at hj))
      (fun j hj => by rw [Nat.add_assoc]; exact hsp _ (by omega)) (fun j hj => by rw [Nat.add_assoc]; exact hfz _ (by omega)) (fun v hv => h1c v (List.mem_of_mem_drop hv))
  obtain ⟨W1, hW1⟩ : ∃ W1, W1 = w.drew.setCells b (off + (i + 1)) (cs.drop i) := ⟨_, rfl⟩
  have hsp1 : ∀ k, k < n + 1 → (W1.cell? ⟨b, off + k, none⟩).isSome = true := fun k hk => by
    rw [hW1]
    exact some_setCells b _ _ _ (fun j hj => by rw [Nat.add_assoc]; exact hsp _ (by omega)) _ (hsp k hk)
  have hcp2 : ∀ (W : World), (∀ x, W.cell? x = W1.cell? x) → (∀ x, W.frozen? x = W1.frozen? x) → ∀ ty dc, (Builtin.copy_ #[46, 46] ty #[.slice (some ⟨b, off + i, none⟩) (n + 1 - i) dc, .slice (some ⟨vb, voff, none⟩) 1 vc]).run Try.prog W = .ok (goInt ([y] : List Value).length) (W.setCells b (off + i) [y]) := fun W hWc hWf ty dc =>
    run_copy_cells W _ _ ty 2 b (off + i) (n + 1 - i) dc ⟨vb, voff, none⟩ 1 vc [y] i_at46 hsz (by simp only [List.length_singleton, Nat.min_def]; split <;> omega)
      (fun j v hj => by
        rw [Addr.add_lit, hWc, hW1, World.cell?_setCells_out b _ _ _ _ (fun h _ => absurd h hvb)]
        have hj0 : j = 0 := by have := (List.getElem?_eq_some_iff.1 hj).1; simp at this; omega
        subst hj0
        simp at hj
        subst hj
        exact hy)
      (fun j hj => by rw [hWc, Nat.add_assoc]; exact hsp1 _ (by simp at hj; omega)) (fun j hj => by rw [hWf, hW1, World.frozen?_setCells, Nat.add_assoc]; exact hfz _ (by simp at hj; omega)) (by simpa using h1y)
  rw [← hW1] at hcp1
  go_enter Try.func59, Try.ntmps59
  go_wp2_with (simp only [hov])
  go_region_law_o (refine copy_any rfl _ _ 46 46 rfl _ _ (by simp [Act.eval, Act.put]) (by simp [Act.eval, Act.put]) (hcp1 _ _ _) ?_)
  go_wp2_with (at_builtin; refine copy_step _ rfl _ _ 46 46 rfl _ _ rfl rfl (hcp2 _ (fun _ => rfl) (fun _ => rfl) _ _) ?_)
  go_ret
  first | exact ⟨rfl, rfl⟩ | exact ⟨rfl, by rw [hW1]⟩

end Go.Proofs.Ytlhchnnfgppneaa.Ab
