/- Facts on the types of this seat's program. -/
import Derived.Test.YtlhchnnfgppneaaKC
import Derived.Test.YtlhchnnfgppneaaProg
namespace Go.Proofs.Ytlhchnnfgppneaa.Ab
open Go Go.RowKit Go.Proofs

theorem mixed : Try.prog.follows .mixedOrders = true := by kernel_rfl

theorem bin_agg {t : TypeId} {x y : Operand} {cs ds : List AV} {us vs : Array Value} {r : Bool} {fs : Array Field} (hu : Try.prog.underlying t = some (.struct fs)) (h1 : (AV.agg cs).flat = some (.agg us)) (h2 : (AV.agg ds).flat = some (.agg vs)) (h : aggEq Try.prog t (.agg us) (.agg vs) = some r) :
    binA Try.prog .eql t x y (.agg cs) (.agg ds) = some (.val (.bool r)) ∧ binA Try.prog .neq t x y (.agg cs) (.agg ds) = some (.val (.bool (!r))) := by
  simp [binA, nilKind, nilOf, hu, h1, h2, h]

theorem inf1 : infoA Try.prog 1 = some (some (.nilFunc), 1, 8) := by kernel_rfl
theorem inf2 : infoA Try.prog 2 = some (some (.int .i64 0), 1, 8) := by kernel_rfl
theorem inf3 : infoA Try.prog 3 = some (some (.int .i64 0), 1, 8) := by kernel_rfl
theorem inf4 : infoA Try.prog 4 = some (some (.bool false), 1, 1) := by kernel_rfl
theorem inf5 : infoA Try.prog 5 = some (some (.int .u8 0), 1, 1) := by kernel_rfl
theorem inf9 : infoA Try.prog 9 = some (some (.string ⟨#[]⟩), 1, 16) := by kernel_rfl
theorem inf22 : infoA Try.prog 22 = some (some (.agg #[.int .i64 0, .int .i64 0, .int .i64 0, .int .i64 0, .int .i64 0]), 5, 40) := by kernel_rfl
theorem inf23 : infoA Try.prog 23 = some (some (.agg #[.int .i64 0, .int .i64 0, .int .i64 0, .int .i64 0, .int .i64 0]), 5, 40) := by kernel_rfl
theorem inf24 : infoA Try.prog 24 = some (some (.int .i64 0), 1, 8) := by kernel_rfl
theorem inf27 : infoA Try.prog 27 = some (some (.pointer none), 1, 8) := by kernel_rfl
theorem inf38 : infoA Try.prog 38 = some (some (.int .u16 0), 1, 2) := by kernel_rfl
theorem inf40 : infoA Try.prog 40 = some (some (.map none), 1, 8) := by kernel_rfl
theorem inf46 : infoA Try.prog 46 = some (some (.slice none 0 0), 1, 24) := by kernel_rfl
theorem inf75 : infoA Try.prog 75 = some (some (.slice none 0 0), 1, 24) := by kernel_rfl
theorem inf85 : infoA Try.prog 85 = some (some (.slice none 0 0), 1, 24) := by kernel_rfl
theorem inf86 : infoA Try.prog 86 = some (some (.slice none 0 0), 1, 24) := by kernel_rfl
theorem inf90 : infoA Try.prog 90 = some (some (.slice none 0 0), 1, 24) := by kernel_rfl
theorem inf91 : infoA Try.prog 91 = some (some (.int .u32 0), 1, 4) := by kernel_rfl
theorem inf93 : infoA Try.prog 93 = some (some (.agg #[.int .i64 0, .int .i64 0]), 2, 16) := by kernel_rfl
theorem inf94 : infoA Try.prog 94 = some (some (.agg #[.int .i64 0, .int .i64 0]), 2, 16) := by kernel_rfl
theorem inf106 : infoA Try.prog 106 = some (some (.map none), 1, 8) := by kernel_rfl
theorem inf107 : infoA Try.prog 107 = some (some (.map none), 1, 8) := by kernel_rfl
theorem inf108 : infoA Try.prog 108 = some (some (.agg #[.int .i64 0, .int .i64 0, .int .i64 0, .slice none 0 0, .map none, .map none, .map none]), 7, 72) := by kernel_rfl
theorem inf109 : infoA Try.prog 109 = some (some (.agg #[.int .i64 0, .int .i64 0, .int .i64 0, .slice none 0 0, .map none, .map none, .map none]), 7, 72) := by kernel_rfl
theorem inf120 : infoA Try.prog 120 = some (some (.nilFunc), 1, 8) := by kernel_rfl
theorem inf140 : infoA Try.prog 140 = some (some (.nilFunc), 1, 8) := by kernel_rfl
theorem inf141 : infoA Try.prog 141 = some (some (.slice none 0 0), 1, 24) := by kernel_rfl
theorem inf144 : infoA Try.prog 144 = some (some (.agg #[.int .u32 0, .int .i64 0, .int .i64 0]), 3, 24) := by kernel_rfl
theorem inf145 : infoA Try.prog 145 = some (some (.agg #[.int .u32 0, .int .i64 0, .int .i64 0]), 3, 24) := by kernel_rfl
theorem inf147 : infoA Try.prog 147 = some (some (.nilFunc), 1, 8) := by kernel_rfl
theorem inf151 : infoA Try.prog 151 = some (some (.nilFunc), 1, 8) := by kernel_rfl
theorem inf152 : infoA Try.prog 152 = some (some (.agg #[.slice none 0 0, .int .i64 0, .int .i64 0]), 3, 40) := by kernel_rfl
theorem inf153 : infoA Try.prog 153 = some (some (.agg #[.slice none 0 0, .int .i64 0, .int .i64 0]), 3, 40) := by kernel_rfl
theorem inf155 : infoA Try.prog 155 = some (some (.agg #[.int .u8 0, .int .u8 0]), 2, 2) := by kernel_rfl
theorem inf163 : infoA Try.prog 163 = some (some (.nilFunc), 1, 8) := by kernel_rfl
theorem inf164 : infoA Try.prog 164 = some (some (.nilFunc), 1, 8) := by kernel_rfl
theorem inf171 : infoA Try.prog 171 = some (some (.nilFunc), 1, 8) := by kernel_rfl
theorem inf174 : infoA Try.prog 174 = some (some (.int .u64 0), 1, 8) := by kernel_rfl
theorem inf178 : infoA Try.prog 178 = some (some (.nilFunc), 1, 8) := by kernel_rfl
theorem inf182 : infoA Try.prog 182 = some (some (.int .i64 0), 1, 8) := by kernel_rfl
theorem inf191 : infoA Try.prog 191 = some (some (.int .u64 0), 1, 8) := by kernel_rfl
theorem inf199 : infoA Try.prog 199 = some (some (.int .u64 0), 1, 8) := by kernel_rfl
theorem inf203 : infoA Try.prog 203 = some (some (.pointer none), 1, 8) := by kernel_rfl
theorem inf207 : infoA Try.prog 207 = some (some (.pointer none), 1, 8) := by kernel_rfl
@[go_sem] theorem sz1 : sizeA Try.prog 1 = some 1 := size_of inf1
@[go_sem] theorem zr1 : zeroA Try.prog 1 = some [.val (.nilFunc)] := zero_of inf1
@[go_sem] theorem ld1 (cs : List AV) (off : Nat) : loadA Try.prog 1 cs off = cs[off]? := load_one Try.underlying1 rfl inf1 cs off
attribute [go_sem] Try.underlying1
@[go_sem] theorem sz2 : sizeA Try.prog 2 = some 1 := size_of inf2
@[go_sem] theorem zr2 : zeroA Try.prog 2 = some [.val (.int .i64 0)] := zero_of inf2
@[go_sem] theorem ld2 (cs : List AV) (off : Nat) : loadA Try.prog 2 cs off = cs[off]? := load_one Try.underlying2 rfl inf2 cs off
attribute [go_sem] Try.underlying2
@[go_sem] theorem sz3 : sizeA Try.prog 3 = some 1 := size_of inf3
@[go_sem] theorem zr3 : zeroA Try.prog 3 = some [.val (.int .i64 0)] := zero_of inf3
@[go_sem] theorem ld3 (cs : List AV) (off : Nat) : loadA Try.prog 3 cs off = cs[off]? := load_one Try.underlying3 rfl inf3 cs off
attribute [go_sem] Try.underlying3
@[go_sem] theorem sz4 : sizeA Try.prog 4 = some 1 := size_of inf4
@[go_sem] theorem zr4 : zeroA Try.prog 4 = some [.val (.bool false)] := zero_of inf4
@[go_sem] theorem ld4 (cs : List AV) (off : Nat) : loadA Try.prog 4 cs off = cs[off]? := load_one Try.underlying4 rfl inf4 cs off
attribute [go_sem] Try.underlying4
@[go_sem] theorem sz5 : sizeA Try.prog 5 = some 1 := size_of inf5
@[go_sem] theorem zr5 : zeroA Try.prog 5 = some [.val (.int .u8 0)] := zero_of inf5
@[go_sem] theorem ld5 (cs : List AV) (off : Nat) : loadA Try.prog 5 cs off = cs[off]? := load_one Try.underlying5 rfl inf5 cs off
attribute [go_sem] Try.underlying5
@[go_sem] theorem sz9 : sizeA Try.prog 9 = some 1 := size_of inf9
@[go_sem] theorem zr9 : zeroA Try.prog 9 = some [.val (.string ⟨#[]⟩)] := zero_of inf9
@[go_sem] theorem ld9 (cs : List AV) (off : Nat) : loadA Try.prog 9 cs off = cs[off]? := load_one Try.underlying9 rfl inf9 cs off
attribute [go_sem] Try.underlying9
@[go_sem] theorem sz22 : sizeA Try.prog 22 = some 5 := size_of inf22
@[go_sem] theorem zr22 : zeroA Try.prog 22 = some [.val (.int .i64 0), .val (.int .i64 0), .val (.int .i64 0), .val (.int .i64 0), .val (.int .i64 0)] := zero_of inf22
@[go_sem] theorem ld22 (cs : List AV) (off : Nat) : loadA Try.prog 22 cs off = if off + 5 ≤ cs.length then some (.agg ((cs.drop off).take 5)) else none := load_agg Try.underlying22 rfl inf22 cs off
@[go_sem] theorem sz23 : sizeA Try.prog 23 = some 5 := size_of inf23
@[go_sem] theorem zr23 : zeroA Try.prog 23 = some [.val (.int .i64 0), .val (.int .i64 0), .val (.int .i64 0), .val (.int .i64 0), .val (.int .i64 0)] := zero_of inf23
@[go_sem] theorem ld23 (cs : List AV) (off : Nat) : loadA Try.prog 23 cs off = if off + 5 ≤ cs.length then some (.agg ((cs.drop off).take 5)) else none := load_agg Try.underlying23 rfl inf23 cs off
@[go_sem] theorem sz24 : sizeA Try.prog 24 = some 1 := size_of inf24
@[go_sem] theorem zr24 : zeroA Try.prog 24 = some [.val (.int .i64 0)] := zero_of inf24
@[go_sem] theorem ld24 (cs : List AV) (off : Nat) : loadA Try.prog 24 cs off = cs[off]? := load_one Try.underlying24 rfl inf24 cs off
attribute [go_sem] Try.underlying24
@[go_sem] theorem sz27 : sizeA Try.prog 27 = some 1 := size_of inf27
@[go_sem] theorem zr27 : zeroA Try.prog 27 = some [.val (.pointer none)] := zero_of inf27
@[go_sem] theorem ld27 (cs : List AV) (off : Nat) : loadA Try.prog 27 cs off = cs[off]? := load_one Try.underlying27 rfl inf27 cs off
attribute [go_sem] Try.underlying27
@[go_sem] theorem sz38 : sizeA Try.prog 38 = some 1 := size_of inf38
@[go_sem] theorem zr38 : zeroA Try.prog 38 = some [.val (.int .u16 0)] := zero_of inf38
@[go_sem] theorem ld38 (cs : List AV) (off : Nat) : loadA Try.prog 38 cs off = cs[off]? := load_one Try.underlying38 rfl inf38 cs off
attribute [go_sem] Try.underlying38
@[go_sem] theorem sz40 : sizeA Try.prog 40 = some 1 := size_of inf40
@[go_sem] theorem zr40 : zeroA Try.prog 40 = some [.val (.map none)] := zero_of inf40
@[go_sem] theorem ld40 (cs : List AV) (off : Nat) : loadA Try.prog 40 cs off = cs[off]? := load_one Try.underlying40 rfl inf40 cs off
attribute [go_sem] Try.underlying40
@[go_sem] theorem sz46 : sizeA Try.prog 46 = some 1 := size_of inf46
@[go_sem] theorem zr46 : zeroA Try.prog 46 = some [.val (.slice none 0 0)] := zero_of inf46
@[go_sem] theorem ld46 (cs : List AV) (off : Nat) : loadA Try.prog 46 cs off = cs[off]? := load_one Try.underlying46 rfl inf46 cs off
attribute [go_sem] Try.underlying46
@[go_sem] theorem sz75 : sizeA Try.prog 75 = some 1 := size_of inf75
@[go_sem] theorem zr75 : zeroA Try.prog 75 = some [.val (.slice none 0 0)] := zero_of inf75
@[go_sem] theorem ld75 (cs : List AV) (off : Nat) : loadA Try.prog 75 cs off = cs[off]? := load_one Try.underlying75 rfl inf75 cs off
attribute [go_sem] Try.underlying75
@[go_sem] theorem sz85 : sizeA Try.prog 85 = some 1 := size_of inf85
@[go_sem] theorem zr85 : zeroA Try.prog 85 = some [.val (.slice none 0 0)] := zero_of inf85
@[go_sem] theorem ld85 (cs : List AV) (off : Nat) : loadA Try.prog 85 cs off = cs[off]? := load_one Try.underlying85 rfl inf85 cs off
attribute [go_sem] Try.underlying85
@[go_sem] theorem sz86 : sizeA Try.prog 86 = some 1 := size_of inf86
@[go_sem] theorem zr86 : zeroA Try.prog 86 = some [.val (.slice none 0 0)] := zero_of inf86
@[go_sem] theorem ld86 (cs : List AV) (off : Nat) : loadA Try.prog 86 cs off = cs[off]? := load_one Try.underlying86 rfl inf86 cs off
attribute [go_sem] Try.underlying86
@[go_sem] theorem sz90 : sizeA Try.prog 90 = some 1 := size_of inf90
@[go_sem] theorem zr90 : zeroA Try.prog 90 = some [.val (.slice none 0 0)] := zero_of inf90
@[go_sem] theorem ld90 (cs : List AV) (off : Nat) : loadA Try.prog 90 cs off = cs[off]? := load_one Try.underlying90 rfl inf90 cs off
attribute [go_sem] Try.underlying90
@[go_sem] theorem sz91 : sizeA Try.prog 91 = some 1 := size_of inf91
@[go_sem] theorem zr91 : zeroA Try.prog 91 = some [.val (.int .u32 0)] := zero_of inf91
@[go_sem] theorem ld91 (cs : List AV) (off : Nat) : loadA Try.prog 91 cs off = cs[off]? := load_one Try.underlying91 rfl inf91 cs off
attribute [go_sem] Try.underlying91
@[go_sem] theorem sz93 : sizeA Try.prog 93 = some 2 := size_of inf93
@[go_sem] theorem zr93 : zeroA Try.prog 93 = some [.val (.int .i64 0), .val (.int .i64 0)] := zero_of inf93
@[go_sem] theorem ld93 (cs : List AV) (off : Nat) : loadA Try.prog 93 cs off = if off + 2 ≤ cs.length then some (.agg ((cs.drop off).take 2)) else none := load_agg Try.underlying93 rfl inf93 cs off
@[go_sem] theorem sz94 : sizeA Try.prog 94 = some 2 := size_of inf94
@[go_sem] theorem zr94 : zeroA Try.prog 94 = some [.val (.int .i64 0), .val (.int .i64 0)] := zero_of inf94
@[go_sem] theorem ld94 (cs : List AV) (off : Nat) : loadA Try.prog 94 cs off = if off + 2 ≤ cs.length then some (.agg ((cs.drop off).take 2)) else none := load_agg Try.underlying94 rfl inf94 cs off
@[go_sem] theorem sz106 : sizeA Try.prog 106 = some 1 := size_of inf106
@[go_sem] theorem zr106 : zeroA Try.prog 106 = some [.val (.map none)] := zero_of inf106
@[go_sem] theorem ld106 (cs : List AV) (off : Nat) : loadA Try.prog 106 cs off = cs[off]? := load_one Try.underlying106 rfl inf106 cs off
attribute [go_sem] Try.underlying106
@[go_sem] theorem sz107 : sizeA Try.prog 107 = some 1 := size_of inf107
@[go_sem] theorem zr107 : zeroA Try.prog 107 = some [.val (.map none)] := zero_of inf107
@[go_sem] theorem ld107 (cs : List AV) (off : Nat) : loadA Try.prog 107 cs off = cs[off]? := load_one Try.underlying107 rfl inf107 cs off
attribute [go_sem] Try.underlying107
@[go_sem] theorem sz108 : sizeA Try.prog 108 = some 7 := size_of inf108
@[go_sem] theorem zr108 : zeroA Try.prog 108 = some [.val (.int .i64 0), .val (.int .i64 0), .val (.int .i64 0), .val (.slice none 0 0), .val (.map none), .val (.map none), .val (.map none)] := zero_of inf108
@[go_sem] theorem ld108 (cs : List AV) (off : Nat) : loadA Try.prog 108 cs off = if off + 7 ≤ cs.length then some (.agg ((cs.drop off).take 7)) else none := load_agg Try.underlying108 rfl inf108 cs off
@[go_sem] theorem sz109 : sizeA Try.prog 109 = some 7 := size_of inf109
@[go_sem] theorem zr109 : zeroA Try.prog 109 = some [.val (.int .i64 0), .val (.int .i64 0), .val (.int .i64 0), .val (.slice none 0 0), .val (.map none), .val (.map none), .val (.map none)] := zero_of inf109
@[go_sem] theorem ld109 (cs : List AV) (off : Nat) : loadA Try.prog 109 cs off = if off + 7 ≤ cs.length then some (.agg ((cs.drop off).take 7)) else none := load_agg Try.underlying109 rfl inf109 cs off
@[go_sem] theorem sz120 : sizeA Try.prog 120 = some 1 := size_of inf120
@[go_sem] theorem zr120 : zeroA Try.prog 120 = some [.val (.nilFunc)] := zero_of inf120
@[go_sem] theorem ld120 (cs : List AV) (off : Nat) : loadA Try.prog 120 cs off = cs[off]? := load_one Try.underlying120 rfl inf120 cs off
attribute [go_sem] Try.underlying120
@[go_sem] theorem sz140 : sizeA Try.prog 140 = some 1 := size_of inf140
@[go_sem] theorem zr140 : zeroA Try.prog 140 = some [.val (.nilFunc)] := zero_of inf140
@[go_sem] theorem ld140 (cs : List AV) (off : Nat) : loadA Try.prog 140 cs off = cs[off]? := load_one Try.underlying140 rfl inf140 cs off
attribute [go_sem] Try.underlying140
@[go_sem] theorem sz141 : sizeA Try.prog 141 = some 1 := size_of inf141
@[go_sem] theorem zr141 : zeroA Try.prog 141 = some [.val (.slice none 0 0)] := zero_of inf141
@[go_sem] theorem ld141 (cs : List AV) (off : Nat) : loadA Try.prog 141 cs off = cs[off]? := load_one Try.underlying141 rfl inf141 cs off
attribute [go_sem] Try.underlying141
@[go_sem] theorem sz144 : sizeA Try.prog 144 = some 3 := size_of inf144
@[go_sem] theorem zr144 : zeroA Try.prog 144 = some [.val (.int .u32 0), .val (.int .i64 0), .val (.int .i64 0)] := zero_of inf144
@[go_sem] theorem ld144 (cs : List AV) (off : Nat) : loadA Try.prog 144 cs off = if off + 3 ≤ cs.length then some (.agg ((cs.drop off).take 3)) else none := load_agg Try.underlying144 rfl inf144 cs off
@[go_sem] theorem sz145 : sizeA Try.prog 145 = some 3 := size_of inf145
@[go_sem] theorem zr145 : zeroA Try.prog 145 = some [.val (.int .u32 0), .val (.int .i64 0), .val (.int .i64 0)] := zero_of inf145
@[go_sem] theorem ld145 (cs : List AV) (off : Nat) : loadA Try.prog 145 cs off = if off + 3 ≤ cs.length then some (.agg ((cs.drop off).take 3)) else none := load_agg Try.underlying145 rfl inf145 cs off
@[go_sem] theorem sz147 : sizeA Try.prog 147 = some 1 := size_of inf147
@[go_sem] theorem zr147 : zeroA Try.prog 147 = some [.val (.nilFunc)] := zero_of inf147
@[go_sem] theorem ld147 (cs : List AV) (off : Nat) : loadA Try.prog 147 cs off = cs[off]? := load_one Try.underlying147 rfl inf147 cs off
attribute [go_sem] Try.underlying147
@[go_sem] theorem sz151 : sizeA Try.prog 151 = some 1 := size_of inf151
@[go_sem] theorem zr151 : zeroA Try.prog 151 = some [.val (.nilFunc)] := zero_of inf151
@[go_sem] theorem ld151 (cs : List AV) (off : Nat) : loadA Try.prog 151 cs off = cs[off]? := load_one Try.underlying151 rfl inf151 cs off
attribute [go_sem] Try.underlying151
@[go_sem] theorem sz152 : sizeA Try.prog 152 = some 3 := size_of inf152
@[go_sem] theorem zr152 : zeroA Try.prog 152 = some [.val (.slice none 0 0), .val (.int .i64 0), .val (.int .i64 0)] := zero_of inf152
@[go_sem] theorem ld152 (cs : List AV) (off : Nat) : loadA Try.prog 152 cs off = if off + 3 ≤ cs.length then some (.agg ((cs.drop off).take 3)) else none := load_agg Try.underlying152 rfl inf152 cs off
@[go_sem] theorem sz153 : sizeA Try.prog 153 = some 3 := size_of inf153
@[go_sem] theorem zr153 : zeroA Try.prog 153 = some [.val (.slice none 0 0), .val (.int .i64 0), .val (.int .i64 0)] := zero_of inf153
@[go_sem] theorem ld153 (cs : List AV) (off : Nat) : loadA Try.prog 153 cs off = if off + 3 ≤ cs.length then some (.agg ((cs.drop off).take 3)) else none := load_agg Try.underlying153 rfl inf153 cs off
@[go_sem] theorem sz155 : sizeA Try.prog 155 = some 2 := size_of inf155
@[go_sem] theorem zr155 : zeroA Try.prog 155 = some [.val (.int .u8 0), .val (.int .u8 0)] := zero_of inf155
@[go_sem] theorem ld155 (cs : List AV) (off : Nat) : loadA Try.prog 155 cs off = if off + 2 ≤ cs.length then some (.agg ((cs.drop off).take 2)) else none := load_agg Try.underlying155 rfl inf155 cs off
@[go_sem] theorem sz163 : sizeA Try.prog 163 = some 1 := size_of inf163
@[go_sem] theorem zr163 : zeroA Try.prog 163 = some [.val (.nilFunc)] := zero_of inf163
@[go_sem] theorem ld163 (cs : List AV) (off : Nat) : loadA Try.prog 163 cs off = cs[off]? := load_one Try.underlying163 rfl inf163 cs off
attribute [go_sem] Try.underlying163
@[go_sem] theorem sz164 : sizeA Try.prog 164 = some 1 := size_of inf164
@[go_sem] theorem zr164 : zeroA Try.prog 164 = some [.val (.nilFunc)] := zero_of inf164
@[go_sem] theorem ld164 (cs : List AV) (off : Nat) : loadA Try.prog 164 cs off = cs[off]? := load_one Try.underlying164 rfl inf164 cs off
attribute [go_sem] Try.underlying164
@[go_sem] theorem sz171 : sizeA Try.prog 171 = some 1 := size_of inf171
@[go_sem] theorem zr171 : zeroA Try.prog 171 = some [.val (.nilFunc)] := zero_of inf171
@[go_sem] theorem ld171 (cs : List AV) (off : Nat) : loadA Try.prog 171 cs off = cs[off]? := load_one Try.underlying171 rfl inf171 cs off
attribute [go_sem] Try.underlying171
@[go_sem] theorem sz174 : sizeA Try.prog 174 = some 1 := size_of inf174
@[go_sem] theorem zr174 : zeroA Try.prog 174 = some [.val (.int .u64 0)] := zero_of inf174
@[go_sem] theorem ld174 (cs : List AV) (off : Nat) : loadA Try.prog 174 cs off = cs[off]? := load_one Try.underlying174 rfl inf174 cs off
attribute [go_sem] Try.underlying174
@[go_sem] theorem sz178 : sizeA Try.prog 178 = some 1 := size_of inf178
@[go_sem] theorem zr178 : zeroA Try.prog 178 = some [.val (.nilFunc)] := zero_of inf178
@[go_sem] theorem ld178 (cs : List AV) (off : Nat) : loadA Try.prog 178 cs off = cs[off]? := load_one Try.underlying178 rfl inf178 cs off
attribute [go_sem] Try.underlying178
@[go_sem] theorem sz182 : sizeA Try.prog 182 = some 1 := size_of inf182
@[go_sem] theorem zr182 : zeroA Try.prog 182 = some [.val (.int .i64 0)] := zero_of inf182
@[go_sem] theorem ld182 (cs : List AV) (off : Nat) : loadA Try.prog 182 cs off = cs[off]? := load_one Try.underlying182 rfl inf182 cs off
attribute [go_sem] Try.underlying182
@[go_sem] theorem sz191 : sizeA Try.prog 191 = some 1 := size_of inf191
@[go_sem] theorem zr191 : zeroA Try.prog 191 = some [.val (.int .u64 0)] := zero_of inf191
@[go_sem] theorem ld191 (cs : List AV) (off : Nat) : loadA Try.prog 191 cs off = cs[off]? := load_one Try.underlying191 rfl inf191 cs off
attribute [go_sem] Try.underlying191
@[go_sem] theorem sz199 : sizeA Try.prog 199 = some 1 := size_of inf199
@[go_sem] theorem zr199 : zeroA Try.prog 199 = some [.val (.int .u64 0)] := zero_of inf199
@[go_sem] theorem ld199 (cs : List AV) (off : Nat) : loadA Try.prog 199 cs off = cs[off]? := load_one Try.underlying199 rfl inf199 cs off
attribute [go_sem] Try.underlying199
@[go_sem] theorem sz203 : sizeA Try.prog 203 = some 1 := size_of inf203
@[go_sem] theorem zr203 : zeroA Try.prog 203 = some [.val (.pointer none)] := zero_of inf203
@[go_sem] theorem ld203 (cs : List AV) (off : Nat) : loadA Try.prog 203 cs off = cs[off]? := load_one Try.underlying203 rfl inf203 cs off
attribute [go_sem] Try.underlying203
@[go_sem] theorem sz207 : sizeA Try.prog 207 = some 1 := size_of inf207
@[go_sem] theorem zr207 : zeroA Try.prog 207 = some [.val (.pointer none)] := zero_of inf207
@[go_sem] theorem ld207 (cs : List AV) (off : Nat) : loadA Try.prog 207 cs off = cs[off]? := load_one Try.underlying207 rfl inf207 cs off
attribute [go_sem] Try.underlying207
@[go_sem] theorem fo22_0 : fieldOff Try.prog 22 0 = some 0 := field_off Try.underlying22 rfl sz2 (by decide)
@[go_sem] theorem ft22_0 : fieldTO Try.prog 22 0 = some (2, 0) := field_to Try.underlying22 rfl
@[go_sem] theorem fo22_1 : fieldOff Try.prog 22 1 = some 1 := field_off Try.underlying22 rfl sz3 (by decide)
@[go_sem] theorem ft22_1 : fieldTO Try.prog 22 1 = some (3, 1) := field_to Try.underlying22 rfl
@[go_sem] theorem fo22_2 : fieldOff Try.prog 22 2 = some 2 := field_off Try.underlying22 rfl sz2 (by decide)
@[go_sem] theorem ft22_2 : fieldTO Try.prog 22 2 = some (2, 2) := field_to Try.underlying22 rfl
@[go_sem] theorem fo22_3 : fieldOff Try.prog 22 3 = some 3 := field_off Try.underlying22 rfl sz2 (by decide)
@[go_sem] theorem ft22_3 : fieldTO Try.prog 22 3 = some (2, 3) := field_to Try.underlying22 rfl
@[go_sem] theorem fo22_4 : fieldOff Try.prog 22 4 = some 4 := field_off Try.underlying22 rfl sz2 (by decide)
@[go_sem] theorem ft22_4 : fieldTO Try.prog 22 4 = some (2, 4) := field_to Try.underlying22 rfl
@[go_sem] theorem bd22 (ps : List (Nat × AV)) : buildA Try.prog 22 ps = (fillA (fun i => ([(0, 1), (1, 1), (2, 1), (3, 1), (4, 1)] : List (Nat × Nat))[i]?) [.val (.int .i64 0), .val (.int .i64 0), .val (.int .i64 0), .val (.int .i64 0), .val (.int .i64 0)] ps).map .agg := build_of Try.underlying22 inf22 (by simp only [List.map_cons, List.map_nil, sz2, sz3, Option.map_some]) ps
@[go_sem] theorem eq22 (x0 y0 : Int) (x1 y1 : Int) (x2 y2 : Int) (x3 y3 : Int) (x4 y4 : Int) : aggEq Try.prog 22 (.agg #[.int .i64 x0, .int .i64 x1, .int .i64 x2, .int .i64 x3, .int .i64 x4]) (.agg #[.int .i64 y0, .int .i64 y1, .int .i64 y2, .int .i64 y3, .int .i64 y4]) = some (x0 == y0 && (x1 == y1 && (x2 == y2 && (x3 == y3 && (x4 == y4 && true))))) := by kernel_rfl
@[go_sem high] theorem be22 {a b : Operand} (x0 y0 : Int) (x1 y1 : Int) (x2 y2 : Int) (x3 y3 : Int) (x4 y4 : Int) : binA Try.prog .eql 22 a b (.agg [.val (.int .i64 x0), .val (.int .i64 x1), .val (.int .i64 x2), .val (.int .i64 x3), .val (.int .i64 x4)]) (.agg [.val (.int .i64 y0), .val (.int .i64 y1), .val (.int .i64 y2), .val (.int .i64 y3), .val (.int .i64 y4)]) = some (.val (.bool (x0 == y0 && (x1 == y1 && (x2 == y2 && (x3 == y3 && (x4 == y4 && true))))))) := (bin_agg Try.underlying22 rfl rfl (eq22 ..)).1
@[go_sem high] theorem bq22 {a b : Operand} (x0 y0 : Int) (x1 y1 : Int) (x2 y2 : Int) (x3 y3 : Int) (x4 y4 : Int) : binA Try.prog .neq 22 a b (.agg [.val (.int .i64 x0), .val (.int .i64 x1), .val (.int .i64 x2), .val (.int .i64 x3), .val (.int .i64 x4)]) (.agg [.val (.int .i64 y0), .val (.int .i64 y1), .val (.int .i64 y2), .val (.int .i64 y3), .val (.int .i64 y4)]) = some (.val (.bool (!((x0 == y0 && (x1 == y1 && (x2 == y2 && (x3 == y3 && (x4 == y4 && true))))))))) := (bin_agg Try.underlying22 rfl rfl (eq22 ..)).2
@[go_sem] theorem fo23_0 : fieldOff Try.prog 23 0 = some 0 := field_off Try.underlying23 rfl sz2 (by decide)
@[go_sem] theorem ft23_0 : fieldTO Try.prog 23 0 = some (2, 0) := field_to Try.underlying23 rfl
@[go_sem] theorem fo23_1 : fieldOff Try.prog 23 1 = some 1 := field_off Try.underlying23 rfl sz3 (by decide)
@[go_sem] theorem ft23_1 : fieldTO Try.prog 23 1 = some (3, 1) := field_to Try.underlying23 rfl
@[go_sem] theorem fo23_2 : fieldOff Try.prog 23 2 = some 2 := field_off Try.underlying23 rfl sz2 (by decide)
@[go_sem] theorem ft23_2 : fieldTO Try.prog 23 2 = some (2, 2) := field_to Try.underlying23 rfl
@[go_sem] theorem fo23_3 : fieldOff Try.prog 23 3 = some 3 := field_off Try.underlying23 rfl sz2 (by decide)
@[go_sem] theorem ft23_3 : fieldTO Try.prog 23 3 = some (2, 3) := field_to Try.underlying23 rfl
@[go_sem] theorem fo23_4 : fieldOff Try.prog 23 4 = some 4 := field_off Try.underlying23 rfl sz2 (by decide)
@[go_sem] theorem ft23_4 : fieldTO Try.prog 23 4 = some (2, 4) := field_to Try.underlying23 rfl
@[go_sem] theorem bd23 (ps : List (Nat × AV)) : buildA Try.prog 23 ps = (fillA (fun i => ([(0, 1), (1, 1), (2, 1), (3, 1), (4, 1)] : List (Nat × Nat))[i]?) [.val (.int .i64 0), .val (.int .i64 0), .val (.int .i64 0), .val (.int .i64 0), .val (.int .i64 0)] ps).map .agg := build_of Try.underlying23 inf23 (by simp only [List.map_cons, List.map_nil, sz2, sz3, Option.map_some]) ps
@[go_sem] theorem eq23 (x0 y0 : Int) (x1 y1 : Int) (x2 y2 : Int) (x3 y3 : Int) (x4 y4 : Int) : aggEq Try.prog 23 (.agg #[.int .i64 x0, .int .i64 x1, .int .i64 x2, .int .i64 x3, .int .i64 x4]) (.agg #[.int .i64 y0, .int .i64 y1, .int .i64 y2, .int .i64 y3, .int .i64 y4]) = some (x0 == y0 && (x1 == y1 && (x2 == y2 && (x3 == y3 && (x4 == y4 && true))))) := by kernel_rfl
@[go_sem high] theorem be23 {a b : Operand} (x0 y0 : Int) (x1 y1 : Int) (x2 y2 : Int) (x3 y3 : Int) (x4 y4 : Int) : binA Try.prog .eql 23 a b (.agg [.val (.int .i64 x0), .val (.int .i64 x1), .val (.int .i64 x2), .val (.int .i64 x3), .val (.int .i64 x4)]) (.agg [.val (.int .i64 y0), .val (.int .i64 y1), .val (.int .i64 y2), .val (.int .i64 y3), .val (.int .i64 y4)]) = some (.val (.bool (x0 == y0 && (x1 == y1 && (x2 == y2 && (x3 == y3 && (x4 == y4 && true))))))) := (bin_agg Try.underlying23 rfl rfl (eq23 ..)).1
@[go_sem high] theorem bq23 {a b : Operand} (x0 y0 : Int) (x1 y1 : Int) (x2 y2 : Int) (x3 y3 : Int) (x4 y4 : Int) : binA Try.prog .neq 23 a b (.agg [.val (.int .i64 x0), .val (.int .i64 x1), .val (.int .i64 x2), .val (.int .i64 x3), .val (.int .i64 x4)]) (.agg [.val (.int .i64 y0), .val (.int .i64 y1), .val (.int .i64 y2), .val (.int .i64 y3), .val (.int .i64 y4)]) = some (.val (.bool (!((x0 == y0 && (x1 == y1 && (x2 == y2 && (x3 == y3 && (x4 == y4 && true))))))))) := (bin_agg Try.underlying23 rfl rfl (eq23 ..)).2
@[go_sem] theorem el46 : elemA Try.prog 46 = .sl 2 1 := elem_of Try.underlying46 sz2
@[go_sem] theorem ap46 (s x : AV) (H : Hp) : appendA Try.prog 46 46 s x H = appendB 2 1 8 s x H := append_of Try.underlying46 inf2 rfl (by decide) (by decide) s x H
@[go_sem] theorem mk46 (n : Int) : makeA Try.prog 46 n = if 0 ≤ n ∧ (8 : Nat) * n ≤ 281474976710656 ∧ n ≤ 9223372036854775807 then some (List.replicate n.toNat [.val (.int .i64 0)], 2) else none := make_of Try.underlying46 inf2 rfl (by decide) n
@[go_sem] theorem lit46 (len : Nat) (ps : List (Nat × AV)) : litA Try.prog 46 len ps = if len * 1 ≤ 16777216 then (fillE 1 (List.replicate len [.val (.int .i64 0)]) ps).map fun es => (es, 2) else none := lit_of Try.underlying46 inf2 rfl (by decide) len ps
@[go_sem] theorem sl46 (x : AV) (lo hi mx : Option AV) : sliceA Try.prog 46 x lo hi mx = sliceB 1 x lo hi mx := slice_of Try.underlying46 sz2 x lo hi mx
@[go_sem] theorem el75 : elemA Try.prog 75 = .sl 23 5 := elem_of Try.underlying75 sz23
@[go_sem] theorem ap75 (s x : AV) (H : Hp) : appendA Try.prog 75 75 s x H = appendB 23 5 40 s x H := append_of Try.underlying75 inf23 rfl (by decide) (by decide) s x H
@[go_sem] theorem mk75 (n : Int) : makeA Try.prog 75 n = if 0 ≤ n ∧ (40 : Nat) * n ≤ 281474976710656 ∧ n ≤ 9223372036854775807 then some (List.replicate n.toNat [.val (.int .i64 0), .val (.int .i64 0), .val (.int .i64 0), .val (.int .i64 0), .val (.int .i64 0)], 23) else none := make_of Try.underlying75 inf23 rfl (by decide) n
@[go_sem] theorem lit75 (len : Nat) (ps : List (Nat × AV)) : litA Try.prog 75 len ps = if len * 5 ≤ 16777216 then (fillE 5 (List.replicate len [.val (.int .i64 0), .val (.int .i64 0), .val (.int .i64 0), .val (.int .i64 0), .val (.int .i64 0)]) ps).map fun es => (es, 23) else none := lit_of Try.underlying75 inf23 rfl (by decide) len ps
@[go_sem] theorem sl75 (x : AV) (lo hi mx : Option AV) : sliceA Try.prog 75 x lo hi mx = sliceB 5 x lo hi mx := slice_of Try.underlying75 sz23 x lo hi mx
@[go_sem] theorem el85 : elemA Try.prog 85 = .sl 94 2 := elem_of Try.underlying85 sz94
@[go_sem] theorem ap85 (s x : AV) (H : Hp) : appendA Try.prog 85 85 s x H = appendB 94 2 16 s x H := append_of Try.underlying85 inf94 rfl (by decide) (by decide) s x H
@[go_sem] theorem mk85 (n : Int) : makeA Try.prog 85 n = if 0 ≤ n ∧ (16 : Nat) * n ≤ 281474976710656 ∧ n ≤ 9223372036854775807 then some (List.replicate n.toNat [.val (.int .i64 0), .val (.int .i64 0)], 94) else none := make_of Try.underlying85 inf94 rfl (by decide) n
@[go_sem] theorem lit85 (len : Nat) (ps : List (Nat × AV)) : litA Try.prog 85 len ps = if len * 2 ≤ 16777216 then (fillE 2 (List.replicate len [.val (.int .i64 0), .val (.int .i64 0)]) ps).map fun es => (es, 94) else none := lit_of Try.underlying85 inf94 rfl (by decide) len ps
@[go_sem] theorem sl85 (x : AV) (lo hi mx : Option AV) : sliceA Try.prog 85 x lo hi mx = sliceB 2 x lo hi mx := slice_of Try.underlying85 sz94 x lo hi mx
@[go_sem] theorem el86 : elemA Try.prog 86 = .sl 3 1 := elem_of Try.underlying86 sz3
@[go_sem] theorem ap86 (s x : AV) (H : Hp) : appendA Try.prog 86 86 s x H = appendB 3 1 8 s x H := append_of Try.underlying86 inf3 rfl (by decide) (by decide) s x H
@[go_sem] theorem mk86 (n : Int) : makeA Try.prog 86 n = if 0 ≤ n ∧ (8 : Nat) * n ≤ 281474976710656 ∧ n ≤ 9223372036854775807 then some (List.replicate n.toNat [.val (.int .i64 0)], 3) else none := make_of Try.underlying86 inf3 rfl (by decide) n
@[go_sem] theorem lit86 (len : Nat) (ps : List (Nat × AV)) : litA Try.prog 86 len ps = if len * 1 ≤ 16777216 then (fillE 1 (List.replicate len [.val (.int .i64 0)]) ps).map fun es => (es, 3) else none := lit_of Try.underlying86 inf3 rfl (by decide) len ps
@[go_sem] theorem sl86 (x : AV) (lo hi mx : Option AV) : sliceA Try.prog 86 x lo hi mx = sliceB 1 x lo hi mx := slice_of Try.underlying86 sz3 x lo hi mx
@[go_sem] theorem el90 : elemA Try.prog 90 = .sl 155 2 := elem_of Try.underlying90 sz155
@[go_sem] theorem ap90 (s x : AV) (H : Hp) : appendA Try.prog 90 90 s x H = appendB 155 2 2 s x H := append_of Try.underlying90 inf155 rfl (by decide) (by decide) s x H
@[go_sem] theorem mk90 (n : Int) : makeA Try.prog 90 n = if 0 ≤ n ∧ (2 : Nat) * n ≤ 281474976710656 ∧ n ≤ 9223372036854775807 then some (List.replicate n.toNat [.val (.int .u8 0), .val (.int .u8 0)], 155) else none := make_of Try.underlying90 inf155 rfl (by decide) n
@[go_sem] theorem lit90 (len : Nat) (ps : List (Nat × AV)) : litA Try.prog 90 len ps = if len * 2 ≤ 16777216 then (fillE 2 (List.replicate len [.val (.int .u8 0), .val (.int .u8 0)]) ps).map fun es => (es, 155) else none := lit_of Try.underlying90 inf155 rfl (by decide) len ps
@[go_sem] theorem sl90 (x : AV) (lo hi mx : Option AV) : sliceA Try.prog 90 x lo hi mx = sliceB 2 x lo hi mx := slice_of Try.underlying90 sz155 x lo hi mx
@[go_sem] theorem fo93_0 : fieldOff Try.prog 93 0 = some 0 := field_off Try.underlying93 rfl sz2 (by decide)
@[go_sem] theorem ft93_0 : fieldTO Try.prog 93 0 = some (2, 0) := field_to Try.underlying93 rfl
@[go_sem] theorem fo93_1 : fieldOff Try.prog 93 1 = some 1 := field_off Try.underlying93 rfl sz2 (by decide)
@[go_sem] theorem ft93_1 : fieldTO Try.prog 93 1 = some (2, 1) := field_to Try.underlying93 rfl
@[go_sem] theorem bd93 (ps : List (Nat × AV)) : buildA Try.prog 93 ps = (fillA (fun i => ([(0, 1), (1, 1)] : List (Nat × Nat))[i]?) [.val (.int .i64 0), .val (.int .i64 0)] ps).map .agg := build_of Try.underlying93 inf93 (by simp only [List.map_cons, List.map_nil, sz2, Option.map_some]) ps
@[go_sem] theorem eq93 (x0 y0 : Int) (x1 y1 : Int) : aggEq Try.prog 93 (.agg #[.int .i64 x0, .int .i64 x1]) (.agg #[.int .i64 y0, .int .i64 y1]) = some (x0 == y0 && (x1 == y1 && true)) := by kernel_rfl
@[go_sem high] theorem be93 {a b : Operand} (x0 y0 : Int) (x1 y1 : Int) : binA Try.prog .eql 93 a b (.agg [.val (.int .i64 x0), .val (.int .i64 x1)]) (.agg [.val (.int .i64 y0), .val (.int .i64 y1)]) = some (.val (.bool (x0 == y0 && (x1 == y1 && true)))) := (bin_agg Try.underlying93 rfl rfl (eq93 ..)).1
@[go_sem high] theorem bq93 {a b : Operand} (x0 y0 : Int) (x1 y1 : Int) : binA Try.prog .neq 93 a b (.agg [.val (.int .i64 x0), .val (.int .i64 x1)]) (.agg [.val (.int .i64 y0), .val (.int .i64 y1)]) = some (.val (.bool (!((x0 == y0 && (x1 == y1 && true)))))) := (bin_agg Try.underlying93 rfl rfl (eq93 ..)).2
@[go_sem] theorem fo94_0 : fieldOff Try.prog 94 0 = some 0 := field_off Try.underlying94 rfl sz2 (by decide)
@[go_sem] theorem ft94_0 : fieldTO Try.prog 94 0 = some (2, 0) := field_to Try.underlying94 rfl
@[go_sem] theorem fo94_1 : fieldOff Try.prog 94 1 = some 1 := field_off Try.underlying94 rfl sz2 (by decide)
@[go_sem] theorem ft94_1 : fieldTO Try.prog 94 1 = some (2, 1) := field_to Try.underlying94 rfl
@[go_sem] theorem bd94 (ps : List (Nat × AV)) : buildA Try.prog 94 ps = (fillA (fun i => ([(0, 1), (1, 1)] : List (Nat × Nat))[i]?) [.val (.int .i64 0), .val (.int .i64 0)] ps).map .agg := build_of Try.underlying94 inf94 (by simp only [List.map_cons, List.map_nil, sz2, Option.map_some]) ps
@[go_sem] theorem eq94 (x0 y0 : Int) (x1 y1 : Int) : aggEq Try.prog 94 (.agg #[.int .i64 x0, .int .i64 x1]) (.agg #[.int .i64 y0, .int .i64 y1]) = some (x0 == y0 && (x1 == y1 && true)) := by kernel_rfl
@[go_sem high] theorem be94 {a b : Operand} (x0 y0 : Int) (x1 y1 : Int) : binA Try.prog .eql 94 a b (.agg [.val (.int .i64 x0), .val (.int .i64 x1)]) (.agg [.val (.int .i64 y0), .val (.int .i64 y1)]) = some (.val (.bool (x0 == y0 && (x1 == y1 && true)))) := (bin_agg Try.underlying94 rfl rfl (eq94 ..)).1
@[go_sem high] theorem bq94 {a b : Operand} (x0 y0 : Int) (x1 y1 : Int) : binA Try.prog .neq 94 a b (.agg [.val (.int .i64 x0), .val (.int .i64 x1)]) (.agg [.val (.int .i64 y0), .val (.int .i64 y1)]) = some (.val (.bool (!((x0 == y0 && (x1 == y1 && true)))))) := (bin_agg Try.underlying94 rfl rfl (eq94 ..)).2
@[go_sem] theorem fo108_0 : fieldOff Try.prog 108 0 = some 0 := field_off Try.underlying108 rfl sz2 (by decide)
@[go_sem] theorem ft108_0 : fieldTO Try.prog 108 0 = some (2, 0) := field_to Try.underlying108 rfl
@[go_sem] theorem fo108_1 : fieldOff Try.prog 108 1 = some 1 := field_off Try.underlying108 rfl sz2 (by decide)
@[go_sem] theorem ft108_1 : fieldTO Try.prog 108 1 = some (2, 1) := field_to Try.underlying108 rfl
@[go_sem] theorem fo108_2 : fieldOff Try.prog 108 2 = some 2 := field_off Try.underlying108 rfl sz2 (by decide)
@[go_sem] theorem ft108_2 : fieldTO Try.prog 108 2 = some (2, 2) := field_to Try.underlying108 rfl
@[go_sem] theorem fo108_3 : fieldOff Try.prog 108 3 = some 3 := field_off Try.underlying108 rfl sz46 (by decide)
@[go_sem] theorem ft108_3 : fieldTO Try.prog 108 3 = some (46, 3) := field_to Try.underlying108 rfl
@[go_sem] theorem fo108_4 : fieldOff Try.prog 108 4 = some 4 := field_off Try.underlying108 rfl sz40 (by decide)
@[go_sem] theorem ft108_4 : fieldTO Try.prog 108 4 = some (40, 4) := field_to Try.underlying108 rfl
@[go_sem] theorem fo108_5 : fieldOff Try.prog 108 5 = some 5 := field_off Try.underlying108 rfl sz106 (by decide)
@[go_sem] theorem ft108_5 : fieldTO Try.prog 108 5 = some (106, 5) := field_to Try.underlying108 rfl
@[go_sem] theorem fo108_6 : fieldOff Try.prog 108 6 = some 6 := field_off Try.underlying108 rfl sz107 (by decide)
@[go_sem] theorem ft108_6 : fieldTO Try.prog 108 6 = some (107, 6) := field_to Try.underlying108 rfl
@[go_sem] theorem bd108 (ps : List (Nat × AV)) : buildA Try.prog 108 ps = (fillA (fun i => ([(0, 1), (1, 1), (2, 1), (3, 1), (4, 1), (5, 1), (6, 1)] : List (Nat × Nat))[i]?) [.val (.int .i64 0), .val (.int .i64 0), .val (.int .i64 0), .val (.slice none 0 0), .val (.map none), .val (.map none), .val (.map none)] ps).map .agg := build_of Try.underlying108 inf108 (by simp only [List.map_cons, List.map_nil, sz2, sz40, sz46, sz106, sz107, Option.map_some]) ps
@[go_sem] theorem fo109_0 : fieldOff Try.prog 109 0 = some 0 := field_off Try.underlying109 rfl sz2 (by decide)
@[go_sem] theorem ft109_0 : fieldTO Try.prog 109 0 = some (2, 0) := field_to Try.underlying109 rfl
@[go_sem] theorem fo109_1 : fieldOff Try.prog 109 1 = some 1 := field_off Try.underlying109 rfl sz2 (by decide)
@[go_sem] theorem ft109_1 : fieldTO Try.prog 109 1 = some (2, 1) := field_to Try.underlying109 rfl
@[go_sem] theorem fo109_2 : fieldOff Try.prog 109 2 = some 2 := field_off Try.underlying109 rfl sz2 (by decide)
@[go_sem] theorem ft109_2 : fieldTO Try.prog 109 2 = some (2, 2) := field_to Try.underlying109 rfl
@[go_sem] theorem fo109_3 : fieldOff Try.prog 109 3 = some 3 := field_off Try.underlying109 rfl sz46 (by decide)
@[go_sem] theorem ft109_3 : fieldTO Try.prog 109 3 = some (46, 3) := field_to Try.underlying109 rfl
@[go_sem] theorem fo109_4 : fieldOff Try.prog 109 4 = some 4 := field_off Try.underlying109 rfl sz40 (by decide)
@[go_sem] theorem ft109_4 : fieldTO Try.prog 109 4 = some (40, 4) := field_to Try.underlying109 rfl
@[go_sem] theorem fo109_5 : fieldOff Try.prog 109 5 = some 5 := field_off Try.underlying109 rfl sz106 (by decide)
@[go_sem] theorem ft109_5 : fieldTO Try.prog 109 5 = some (106, 5) := field_to Try.underlying109 rfl
@[go_sem] theorem fo109_6 : fieldOff Try.prog 109 6 = some 6 := field_off Try.underlying109 rfl sz107 (by decide)
@[go_sem] theorem ft109_6 : fieldTO Try.prog 109 6 = some (107, 6) := field_to Try.underlying109 rfl
@[go_sem] theorem bd109 (ps : List (Nat × AV)) : buildA Try.prog 109 ps = (fillA (fun i => ([(0, 1), (1, 1), (2, 1), (3, 1), (4, 1), (5, 1), (6, 1)] : List (Nat × Nat))[i]?) [.val (.int .i64 0), .val (.int .i64 0), .val (.int .i64 0), .val (.slice none 0 0), .val (.map none), .val (.map none), .val (.map none)] ps).map .agg := build_of Try.underlying109 inf109 (by simp only [List.map_cons, List.map_nil, sz2, sz40, sz46, sz106, sz107, Option.map_some]) ps
@[go_sem] theorem el141 : elemA Try.prog 141 = .sl 145 3 := elem_of Try.underlying141 sz145
@[go_sem] theorem ap141 (s x : AV) (H : Hp) : appendA Try.prog 141 141 s x H = appendB 145 3 24 s x H := append_of Try.underlying141 inf145 rfl (by decide) (by decide) s x H
@[go_sem] theorem mk141 (n : Int) : makeA Try.prog 141 n = if 0 ≤ n ∧ (24 : Nat) * n ≤ 281474976710656 ∧ n ≤ 9223372036854775807 then some (List.replicate n.toNat [.val (.int .u32 0), .val (.int .i64 0), .val (.int .i64 0)], 145) else none := make_of Try.underlying141 inf145 rfl (by decide) n
@[go_sem] theorem lit141 (len : Nat) (ps : List (Nat × AV)) : litA Try.prog 141 len ps = if len * 3 ≤ 16777216 then (fillE 3 (List.replicate len [.val (.int .u32 0), .val (.int .i64 0), .val (.int .i64 0)]) ps).map fun es => (es, 145) else none := lit_of Try.underlying141 inf145 rfl (by decide) len ps
@[go_sem] theorem sl141 (x : AV) (lo hi mx : Option AV) : sliceA Try.prog 141 x lo hi mx = sliceB 3 x lo hi mx := slice_of Try.underlying141 sz145 x lo hi mx
@[go_sem] theorem fo144_0 : fieldOff Try.prog 144 0 = some 0 := field_off Try.underlying144 rfl sz91 (by decide)
@[go_sem] theorem ft144_0 : fieldTO Try.prog 144 0 = some (91, 0) := field_to Try.underlying144 rfl
@[go_sem] theorem fo144_1 : fieldOff Try.prog 144 1 = some 1 := field_off Try.underlying144 rfl sz2 (by decide)
@[go_sem] theorem ft144_1 : fieldTO Try.prog 144 1 = some (2, 1) := field_to Try.underlying144 rfl
@[go_sem] theorem fo144_2 : fieldOff Try.prog 144 2 = some 2 := field_off Try.underlying144 rfl sz2 (by decide)
@[go_sem] theorem ft144_2 : fieldTO Try.prog 144 2 = some (2, 2) := field_to Try.underlying144 rfl
@[go_sem] theorem bd144 (ps : List (Nat × AV)) : buildA Try.prog 144 ps = (fillA (fun i => ([(0, 1), (1, 1), (2, 1)] : List (Nat × Nat))[i]?) [.val (.int .u32 0), .val (.int .i64 0), .val (.int .i64 0)] ps).map .agg := build_of Try.underlying144 inf144 (by simp only [List.map_cons, List.map_nil, sz2, sz91, Option.map_some]) ps
@[go_sem] theorem eq144 (x0 y0 : Int) (x1 y1 : Int) (x2 y2 : Int) : aggEq Try.prog 144 (.agg #[.int .u32 x0, .int .i64 x1, .int .i64 x2]) (.agg #[.int .u32 y0, .int .i64 y1, .int .i64 y2]) = some (x0 == y0 && (x1 == y1 && (x2 == y2 && true))) := by kernel_rfl
@[go_sem high] theorem be144 {a b : Operand} (x0 y0 : Int) (x1 y1 : Int) (x2 y2 : Int) : binA Try.prog .eql 144 a b (.agg [.val (.int .u32 x0), .val (.int .i64 x1), .val (.int .i64 x2)]) (.agg [.val (.int .u32 y0), .val (.int .i64 y1), .val (.int .i64 y2)]) = some (.val (.bool (x0 == y0 && (x1 == y1 && (x2 == y2 && true))))) := (bin_agg Try.underlying144 rfl rfl (eq144 ..)).1
@[go_sem high] theorem bq144 {a b : Operand} (x0 y0 : Int) (x1 y1 : Int) (x2 y2 : Int) : binA Try.prog .neq 144 a b (.agg [.val (.int .u32 x0), .val (.int .i64 x1), .val (.int .i64 x2)]) (.agg [.val (.int .u32 y0), .val (.int .i64 y1), .val (.int .i64 y2)]) = some (.val (.bool (!((x0 == y0 && (x1 == y1 && (x2 == y2 && true))))))) := (bin_agg Try.underlying144 rfl rfl (eq144 ..)).2
@[go_sem] theorem fo145_0 : fieldOff Try.prog 145 0 = some 0 := field_off Try.underlying145 rfl sz91 (by decide)
@[go_sem] theorem ft145_0 : fieldTO Try.prog 145 0 = some (91, 0) := field_to Try.underlying145 rfl
@[go_sem] theorem fo145_1 : fieldOff Try.prog 145 1 = some 1 := field_off Try.underlying145 rfl sz2 (by decide)
@[go_sem] theorem ft145_1 : fieldTO Try.prog 145 1 = some (2, 1) := field_to Try.underlying145 rfl
@[go_sem] theorem fo145_2 : fieldOff Try.prog 145 2 = some 2 := field_off Try.underlying145 rfl sz2 (by decide)
@[go_sem] theorem ft145_2 : fieldTO Try.prog 145 2 = some (2, 2) := field_to Try.underlying145 rfl
@[go_sem] theorem bd145 (ps : List (Nat × AV)) : buildA Try.prog 145 ps = (fillA (fun i => ([(0, 1), (1, 1), (2, 1)] : List (Nat × Nat))[i]?) [.val (.int .u32 0), .val (.int .i64 0), .val (.int .i64 0)] ps).map .agg := build_of Try.underlying145 inf145 (by simp only [List.map_cons, List.map_nil, sz2, sz91, Option.map_some]) ps
@[go_sem] theorem eq145 (x0 y0 : Int) (x1 y1 : Int) (x2 y2 : Int) : aggEq Try.prog 145 (.agg #[.int .u32 x0, .int .i64 x1, .int .i64 x2]) (.agg #[.int .u32 y0, .int .i64 y1, .int .i64 y2]) = some (x0 == y0 && (x1 == y1 && (x2 == y2 && true))) := by kernel_rfl
@[go_sem high] theorem be145 {a b : Operand} (x0 y0 : Int) (x1 y1 : Int) (x2 y2 : Int) : binA Try.prog .eql 145 a b (.agg [.val (.int .u32 x0), .val (.int .i64 x1), .val (.int .i64 x2)]) (.agg [.val (.int .u32 y0), .val (.int .i64 y1), .val (.int .i64 y2)]) = some (.val (.bool (x0 == y0 && (x1 == y1 && (x2 == y2 && true))))) := (bin_agg Try.underlying145 rfl rfl (eq145 ..)).1
@[go_sem high] theorem bq145 {a b : Operand} (x0 y0 : Int) (x1 y1 : Int) (x2 y2 : Int) : binA Try.prog .neq 145 a b (.agg [.val (.int .u32 x0), .val (.int .i64 x1), .val (.int .i64 x2)]) (.agg [.val (.int .u32 y0), .val (.int .i64 y1), .val (.int .i64 y2)]) = some (.val (.bool (!((x0 == y0 && (x1 == y1 && (x2 == y2 && true))))))) := (bin_agg Try.underlying145 rfl rfl (eq145 ..)).2
@[go_sem] theorem fo152_0 : fieldOff Try.prog 152 0 = some 0 := field_off Try.underlying152 rfl sz86 (by decide)
@[go_sem] theorem ft152_0 : fieldTO Try.prog 152 0 = some (86, 0) := field_to Try.underlying152 rfl
@[go_sem] theorem fo152_1 : fieldOff Try.prog 152 1 = some 1 := field_off Try.underlying152 rfl sz2 (by decide)
@[go_sem] theorem ft152_1 : fieldTO Try.prog 152 1 = some (2, 1) := field_to Try.underlying152 rfl
@[go_sem] theorem fo152_2 : fieldOff Try.prog 152 2 = some 2 := field_off Try.underlying152 rfl sz2 (by decide)
@[go_sem] theorem ft152_2 : fieldTO Try.prog 152 2 = some (2, 2) := field_to Try.underlying152 rfl
@[go_sem] theorem bd152 (ps : List (Nat × AV)) : buildA Try.prog 152 ps = (fillA (fun i => ([(0, 1), (1, 1), (2, 1)] : List (Nat × Nat))[i]?) [.val (.slice none 0 0), .val (.int .i64 0), .val (.int .i64 0)] ps).map .agg := build_of Try.underlying152 inf152 (by simp only [List.map_cons, List.map_nil, sz2, sz86, Option.map_some]) ps
@[go_sem] theorem fo153_0 : fieldOff Try.prog 153 0 = some 0 := field_off Try.underlying153 rfl sz86 (by decide)
@[go_sem] theorem ft153_0 : fieldTO Try.prog 153 0 = some (86, 0) := field_to Try.underlying153 rfl
@[go_sem] theorem fo153_1 : fieldOff Try.prog 153 1 = some 1 := field_off Try.underlying153 rfl sz2 (by decide)
@[go_sem] theorem ft153_1 : fieldTO Try.prog 153 1 = some (2, 1) := field_to Try.underlying153 rfl
@[go_sem] theorem fo153_2 : fieldOff Try.prog 153 2 = some 2 := field_off Try.underlying153 rfl sz2 (by decide)
@[go_sem] theorem ft153_2 : fieldTO Try.prog 153 2 = some (2, 2) := field_to Try.underlying153 rfl
@[go_sem] theorem bd153 (ps : List (Nat × AV)) : buildA Try.prog 153 ps = (fillA (fun i => ([(0, 1), (1, 1), (2, 1)] : List (Nat × Nat))[i]?) [.val (.slice none 0 0), .val (.int .i64 0), .val (.int .i64 0)] ps).map .agg := build_of Try.underlying153 inf153 (by simp only [List.map_cons, List.map_nil, sz2, sz86, Option.map_some]) ps
@[go_sem] theorem el155 : elemA Try.prog 155 = .ar 2 5 1 := elem_arr Try.underlying155 sz5 (by decide)

end Go.Proofs.Ytlhchnnfgppneaa.Ab
