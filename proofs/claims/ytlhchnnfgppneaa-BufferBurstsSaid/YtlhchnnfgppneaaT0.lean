/- Facts on the types of this seat's program. -/
import Derived.Test.YtlhchnnfgppneaaKC
import Derived.Test.YtlhchnnfgppneaaProg
namespace Go.Proofs.Ytlhchnnfgppneaa.Ab
open Go Go.RowKit Go.Proofs

theorem mixed : Try.prog.follows .mixedOrders = true := by kernel_rfl

theorem bin_agg {t : TypeId} {x y : Operand} {cs ds : List AV} {us vs : Array Value} {r : Bool} {fs : Array Field} (hu : Try.prog.underlying t = some (.struct fs)) (h1 : (AV.agg cs).flat = some (.agg us)) (h2 : (AV.agg ds).flat = some (.agg vs)) (h : aggEq Try.prog t (.agg us) (.agg vs) = some r) :
    binA Try.prog .eql t x y (.agg cs) (.agg ds) = some (.val (.bool r)) ∧ binA Try.prog .neq t x y (.agg cs) (.agg ds) = some (.val (.bool (!r))) := by
  simp [binA, nilKind, nilOf, hu, h1, h2, h]

theorem inf1 : infoA Try.prog 1 = some (some (.nilFunc), 1, 8) := by kernel_rfl
theorem inf2 : infoA Try.prog 2 = some (some (.int .i64 0), 1, 8) := by kernel_rfl
theorem inf3 : infoA Try.prog 3 = some (some (.int .i64 0), 1, 8) := by kernel_rfl
theorem inf4 : infoA Try.prog 4 = some (some (.bool false), 1, 1) := by kernel_rfl
theorem inf5 : infoA Try.prog 5 = some (some (.int .u8 0), 1, 1) := by kernel_rfl
theorem inf6 : infoA Try.prog 6 = some (some (.int .u8 0), 1, 1) := by kernel_rfl
theorem inf7 : infoA Try.prog 7 = some (some (.agg #[.int .i64 0, .int .i64 0, .bool false, .int .u8 0]), 4, 24) := by kernel_rfl
theorem inf8 : infoA Try.prog 8 = some (some (.agg #[.int .i64 0, .int .i64 0, .bool false, .int .u8 0]), 4, 24) := by kernel_rfl
theorem inf9 : infoA Try.prog 9 = some (some (.string ⟨#[]⟩), 1, 16) := by kernel_rfl
theorem inf10 : infoA Try.prog 10 = some (some (.string ⟨#[]⟩), 1, 16) := by kernel_rfl
theorem inf11 : infoA Try.prog 11 = some (some (.string ⟨#[]⟩), 1, 16) := by kernel_rfl
theorem inf12 : infoA Try.prog 12 = some (some (.int .u64 0), 1, 8) := by kernel_rfl
theorem inf13 : infoA Try.prog 13 = some (some (.agg #[.string ⟨#[]⟩, .int .u64 0]), 2, 24) := by kernel_rfl
theorem inf14 : infoA Try.prog 14 = some (some (.agg #[.string ⟨#[]⟩, .int .u64 0]), 2, 24) := by kernel_rfl
theorem inf15 : infoA Try.prog 15 = some (some (.pointer none), 1, 8) := by kernel_rfl
theorem inf16 : infoA Try.prog 16 = some (some (.pointer none), 1, 8) := by kernel_rfl
theorem inf17 : infoA Try.prog 17 = some (some (.pointer none), 1, 8) := by kernel_rfl
theorem inf18 : infoA Try.prog 18 = some (some (.agg #[.pointer none]), 1, 8) := by kernel_rfl
theorem inf19 : infoA Try.prog 19 = some (some (.agg #[.pointer none]), 1, 8) := by kernel_rfl
theorem inf21 : infoA Try.prog 21 = some (some (.int .i32 0), 1, 4) := by kernel_rfl
theorem inf22 : infoA Try.prog 22 = some (some (.agg #[.int .i64 0, .int .i64 0, .int .i64 0, .int .i64 0, .int .i64 0]), 5, 40) := by kernel_rfl
theorem inf23 : infoA Try.prog 23 = some (some (.agg #[.int .i64 0, .int .i64 0, .int .i64 0, .int .i64 0, .int .i64 0]), 5, 40) := by kernel_rfl
theorem inf24 : infoA Try.prog 24 = some (some (.int .i64 0), 1, 8) := by kernel_rfl
theorem inf26 : infoA Try.prog 26 = some (some (.nilFunc), 1, 8) := by kernel_rfl
theorem inf27 : infoA Try.prog 27 = some (some (.pointer none), 1, 8) := by kernel_rfl
theorem inf29 : infoA Try.prog 29 = some (some (.nilFunc), 1, 8) := by kernel_rfl
theorem inf30 : infoA Try.prog 30 = some (some (.pointer none), 1, 8) := by kernel_rfl
theorem inf32 : infoA Try.prog 32 = some (some (.nilFunc), 1, 8) := by kernel_rfl
theorem inf33 : infoA Try.prog 33 = some (some (.nilFunc), 1, 8) := by kernel_rfl
theorem inf34 : infoA Try.prog 34 = some (some (.nilFunc), 1, 8) := by kernel_rfl
theorem inf35 : infoA Try.prog 35 = some (some (.nilFunc), 1, 8) := by kernel_rfl
theorem inf36 : infoA Try.prog 36 = some (some (.nilFunc), 1, 8) := by kernel_rfl
theorem inf37 : infoA Try.prog 37 = some (some (.nilFunc), 1, 8) := by kernel_rfl
theorem inf38 : infoA Try.prog 38 = some (some (.int .u16 0), 1, 2) := by kernel_rfl
theorem inf39 : infoA Try.prog 39 = some (some (.slice none 0 0), 1, 24) := by kernel_rfl
theorem inf40 : infoA Try.prog 40 = some (some (.map none), 1, 8) := by kernel_rfl
theorem inf41 : infoA Try.prog 41 = some (some (.agg #[.int .u8 0, .int .u8 0, .int .u8 0, .int .u8 0, .int .u8 0]), 5, 5) := by kernel_rfl
theorem inf42 : infoA Try.prog 42 = some (some (.agg #[.int .u8 0, .int .u8 0, .int .u8 0, .int .u8 0, .int .u8 0]), 5, 5) := by kernel_rfl
theorem inf43 : infoA Try.prog 43 = some (some (.nilFunc), 1, 8) := by kernel_rfl
theorem inf44 : infoA Try.prog 44 = some (some (.slice none 0 0), 1, 24) := by kernel_rfl
theorem inf45 : infoA Try.prog 45 = some (some (.nilFunc), 1, 8) := by kernel_rfl
theorem inf46 : infoA Try.prog 46 = some (some (.slice none 0 0), 1, 24) := by kernel_rfl
theorem inf48 : infoA Try.prog 48 = some (some (.nilFunc), 1, 8) := by kernel_rfl
theorem inf49 : infoA Try.prog 49 = some (some (.nilFunc), 1, 8) := by kernel_rfl
theorem inf50 : infoA Try.prog 50 = some (some (.nilFunc), 1, 8) := by kernel_rfl
theorem inf51 : infoA Try.prog 51 = some (some (.nilFunc), 1, 8) := by kernel_rfl
theorem inf52 : infoA Try.prog 52 = some (some (.agg #[.int .i64 0, .int .i64 0, .int .i64 0, .int .i64 0, .int .i64 0, .bool false, .int .i64 0]), 7, 56) := by kernel_rfl
theorem inf53 : infoA Try.prog 53 = some (some (.agg #[.int .i64 0, .int .i64 0, .int .i64 0, .int .i64 0, .int .i64 0, .bool false, .int .i64 0]), 7, 56) := by kernel_rfl
theorem inf55 : infoA Try.prog 55 = some (some (.nilFunc), 1, 8) := by kernel_rfl
theorem inf56 : infoA Try.prog 56 = some (some (.nilFunc), 1, 8) := by kernel_rfl
theorem inf57 : infoA Try.prog 57 = some (some (.slice none 0 0), 1, 24) := by kernel_rfl
theorem inf58 : infoA Try.prog 58 = some (some (.agg #[.int .u8 0, .int .u8 0, .int .u8 0]), 3, 3) := by kernel_rfl
theorem inf59 : infoA Try.prog 59 = some (some (.nilFunc), 1, 8) := by kernel_rfl
theorem inf60 : infoA Try.prog 60 = some (some (.nilFunc), 1, 8) := by kernel_rfl
theorem inf61 : infoA Try.prog 61 = some (some (.slice none 0 0), 1, 24) := by kernel_rfl
theorem inf62 : infoA Try.prog 62 = some (some (.nilFunc), 1, 8) := by kernel_rfl
theorem inf63 : infoA Try.prog 63 = some (some (.slice none 0 0), 1, 24) := by kernel_rfl
theorem inf64 : infoA Try.prog 64 = some (some (.agg #[.int .u8 0, .int .i64 0, .int .i64 0, .int .i64 0, .int .i64 0, .int .i64 0, .int .i64 0, .int .i64 0, .int .i64 0, .slice none 0 0]), 10, 96) := by kernel_rfl
theorem inf65 : infoA Try.prog 65 = some (some (.agg #[.int .u8 0, .int .i64 0, .int .i64 0, .int .i64 0, .int .i64 0, .int .i64 0, .int .i64 0, .int .i64 0, .int .i64 0, .slice none 0 0]), 10, 96) := by kernel_rfl
theorem inf67 : infoA Try.prog 67 = some (some (.nilFunc), 1, 8) := by kernel_rfl
theorem inf68 : infoA Try.prog 68 = some (some (.nilFunc), 1, 8) := by kernel_rfl
theorem inf69 : infoA Try.prog 69 = some (some (.agg #[.int .i64 0, .int .i64 0]), 2, 16) := by kernel_rfl
theorem inf70 : infoA Try.prog 70 = some (some (.agg #[.int .i64 0, .int .i64 0]), 2, 16) := by kernel_rfl
theorem inf71 : infoA Try.prog 71 = some (some (.nilFunc), 1, 8) := by kernel_rfl
theorem inf72 : infoA Try.prog 72 = some (some (.agg #[.int .i64 0, .int .i64 0, .slice none 0 0]), 3, 40) := by kernel_rfl
theorem inf73 : infoA Try.prog 73 = some (some (.agg #[.int .i64 0, .int .i64 0, .slice none 0 0]), 3, 40) := by kernel_rfl
theorem inf74 : infoA Try.prog 74 = some (some (.nilFunc), 1, 8) := by kernel_rfl
theorem inf75 : infoA Try.prog 75 = some (some (.slice none 0 0), 1, 24) := by kernel_rfl
theorem inf76 : infoA Try.prog 76 = some (some (.pointer none), 1, 8) := by kernel_rfl
theorem inf77 : infoA Try.prog 77 = some (some (.nilFunc), 1, 8) := by kernel_rfl
theorem inf78 : infoA Try.prog 78 = some (some (.pointer none), 1, 8) := by kernel_rfl
theorem inf79 : infoA Try.prog 79 = some (some (.agg #[.slice none 0 0]), 1, 24) := by kernel_rfl
theorem inf80 : infoA Try.prog 80 = some (some (.agg #[.slice none 0 0]), 1, 24) := by kernel_rfl
theorem inf81 : infoA Try.prog 81 = some (some (.nilFunc), 1, 8) := by kernel_rfl
theorem inf82 : infoA Try.prog 82 = some (some (.nilFunc), 1, 8) := by kernel_rfl
theorem inf83 : infoA Try.prog 83 = some (some (.nilFunc), 1, 8) := by kernel_rfl
theorem inf84 : infoA Try.prog 84 = some (some (.nilFunc), 1, 8) := by kernel_rfl
theorem inf85 : infoA Try.prog 85 = some (some (.slice none 0 0), 1, 24) := by kernel_rfl
theorem inf86 : infoA Try.prog 86 = some (some (.slice none 0 0), 1, 24) := by kernel_rfl
theorem inf88 : infoA Try.prog 88 = some (some (.nilFunc), 1, 8) := by kernel_rfl
theorem inf89 : infoA Try.prog 89 = some (some (.nilFunc), 1, 8) := by kernel_rfl
theorem inf90 : infoA Try.prog 90 = some (some (.slice none 0 0), 1, 24) := by kernel_rfl
theorem inf91 : infoA Try.prog 91 = some (some (.int .u32 0), 1, 4) := by kernel_rfl
theorem inf92 : infoA Try.prog 92 = some (some (.nilFunc), 1, 8) := by kernel_rfl
theorem inf93 : infoA Try.prog 93 = some (some (.agg #[.int .i64 0, .int .i64 0]), 2, 16) := by kernel_rfl
theorem inf94 : infoA Try.prog 94 = some (some (.agg #[.int .i64 0, .int .i64 0]), 2, 16) := by kernel_rfl
theorem inf95 : infoA Try.prog 95 = some (some (.nilFunc), 1, 8) := by kernel_rfl
theorem inf97 : infoA Try.prog 97 = some (some (.nilFunc), 1, 8) := by kernel_rfl
theorem inf98 : infoA Try.prog 98 = some (some (.nilFunc), 1, 8) := by kernel_rfl
theorem inf99 : infoA Try.prog 99 = some (some (.nilFunc), 1, 8) := by kernel_rfl
theorem inf100 : infoA Try.prog 100 = some (some (.nilFunc), 1, 8) := by kernel_rfl
theorem inf101 : infoA Try.prog 101 = some (some (.slice none 0 0), 1, 24) := by kernel_rfl
theorem inf102 : infoA Try.prog 102 = some (some (.slice none 0 0), 1, 24) := by kernel_rfl
theorem inf103 : infoA Try.prog 103 = some (some (.agg #[.int .u16 0, .int .u16 0, .bool false, .slice none 0 0]), 4, 32) := by kernel_rfl
theorem inf104 : infoA Try.prog 104 = some (some (.agg #[.int .u16 0, .int .u16 0, .bool false, .slice none 0 0]), 4, 32) := by kernel_rfl
theorem inf105 : infoA Try.prog 105 = some (some (.nilFunc), 1, 8) := by kernel_rfl
theorem inf106 : infoA Try.prog 106 = some (some (.map none), 1, 8) := by kernel_rfl
theorem inf107 : infoA Try.prog 107 = some (some (.map none), 1, 8) := by kernel_rfl
theorem inf108 : infoA Try.prog 108 = some (some (.agg #[.int .i64 0, .int .i64 0, .int .i64 0, .slice none 0 0, .map none, .map none, .map none]), 7, 72) := by kernel_rfl
theorem inf109 : infoA Try.prog 109 = some (some (.agg #[.int .i64 0, .int .i64 0, .int .i64 0, .slice none 0 0, .map none, .map none, .map none]), 7, 72) := by kernel_rfl
theorem inf110 : infoA Try.prog 110 = some (some (.slice none 0 0), 1, 24) := by kernel_rfl
theorem inf111 : infoA Try.prog 111 = some (some (.agg #[.map none]), 1, 8) := by kernel_rfl
theorem inf112 : infoA Try.prog 112 = some (some (.agg #[.map none]), 1, 8) := by kernel_rfl
theorem inf113 : infoA Try.prog 113 = some (some (.slice none 0 0), 1, 24) := by kernel_rfl
theorem inf114 : infoA Try.prog 114 = some (some (.nilFunc), 1, 8) := by kernel_rfl
theorem inf115 : infoA Try.prog 115 = some (some (.nilFunc), 1, 8) := by kernel_rfl
theorem inf116 : infoA Try.prog 116 = some (some (.nilFunc), 1, 8) := by kernel_rfl
theorem inf117 : infoA Try.prog 117 = some (some (.nilFunc), 1, 8) := by kernel_rfl
theorem inf119 : infoA Try.prog 119 = some (some (.nilFunc), 1, 8) := by kernel_rfl
theorem inf120 : infoA Try.prog 120 = some (some (.nilFunc), 1, 8) := by kernel_rfl
theorem inf121 : infoA Try.prog 121 = some (some (.nilFunc), 1, 8) := by kernel_rfl
theorem inf122 : infoA Try.prog 122 = some (some (.nilFunc), 1, 8) := by kernel_rfl
theorem inf123 : infoA Try.prog 123 = some (some (.nilFunc), 1, 8) := by kernel_rfl
theorem inf124 : infoA Try.prog 124 = some (some (.nilFunc), 1, 8) := by kernel_rfl
theorem inf125 : infoA Try.prog 125 = some (some (.nilFunc), 1, 8) := by kernel_rfl
theorem inf126 : infoA Try.prog 126 = some (some (.nilFunc), 1, 8) := by kernel_rfl
theorem inf127 : infoA Try.prog 127 = some (some (.nilFunc), 1, 8) := by kernel_rfl
theorem inf128 : infoA Try.prog 128 = some (some (.nilFunc), 1, 8) := by kernel_rfl
theorem inf129 : infoA Try.prog 129 = some (some (.nilFunc), 1, 8) := by kernel_rfl
theorem inf130 : infoA Try.prog 130 = some (some (.nilFunc), 1, 8) := by kernel_rfl
theorem inf131 : infoA Try.prog 131 = some (some (.nilFunc), 1, 8) := by kernel_rfl
theorem inf132 : infoA Try.prog 132 = some (some (.nilFunc), 1, 8) := by kernel_rfl
theorem inf133 : infoA Try.prog 133 = some (some (.nilFunc), 1, 8) := by kernel_rfl
theorem inf134 : infoA Try.prog 134 = some (some (.nilFunc), 1, 8) := by kernel_rfl
theorem inf136 : infoA Try.prog 136 = some (some (.nilFunc), 1, 8) := by kernel_rfl
theorem inf137 : infoA Try.prog 137 = some (some (.nilFunc), 1, 8) := by kernel_rfl
theorem inf138 : infoA Try.prog 138 = some (some (.nilFunc), 1, 8) := by kernel_rfl
theorem inf139 : infoA Try.prog 139 = some (some (.nilFunc), 1, 8) := by kernel_rfl
theorem inf140 : infoA Try.prog 140 = some (some (.nilFunc), 1, 8) := by kernel_rfl
theorem inf141 : infoA Try.prog 141 = some (some (.slice none 0 0), 1, 24) := by kernel_rfl
theorem inf142 : infoA Try.prog 142 = some (some (.nilFunc), 1, 8) := by kernel_rfl
theorem inf143 : infoA Try.prog 143 = some (some (.nilFunc), 1, 8) := by kernel_rfl
theorem inf144 : infoA Try.prog 144 = some (some (.agg #[.int .u32 0, .int .i64 0, .int .i64 0]), 3, 24) := by kernel_rfl
theorem inf145 : infoA Try.prog 145 = some (some (.agg #[.int .u32 0, .int .i64 0, .int .i64 0]), 3, 24) := by kernel_rfl
theorem inf146 : infoA Try.prog 146 = some (some (.nilFunc), 1, 8) := by kernel_rfl
theorem inf147 : infoA Try.prog 147 = some (some (.nilFunc), 1, 8) := by kernel_rfl
theorem inf148 : infoA Try.prog 148 = some (some (.nilFunc), 1, 8) := by kernel_rfl
theorem inf149 : infoA Try.prog 149 = some (some (.nilFunc), 1, 8) := by kernel_rfl
theorem inf150 : infoA Try.prog 150 = some (some (.nilFunc), 1, 8) := by kernel_rfl
theorem inf151 : infoA Try.prog 151 = some (some (.nilFunc), 1, 8) := by kernel_rfl
theorem inf152 : infoA Try.prog 152 = some (some (.agg #[.slice none 0 0, .int .i64 0, .int .i64 0]), 3, 40) := by kernel_rfl
theorem inf153 : infoA Try.prog 153 = some (some (.agg #[.slice none 0 0, .int .i64 0, .int .i64 0]), 3, 40) := by kernel_rfl
theorem inf154 : infoA Try.prog 154 = some (some (.nilFunc), 1, 8) := by kernel_rfl
theorem inf155 : infoA Try.prog 155 = some (some (.agg #[.int .u8 0, .int .u8 0]), 2, 2) := by kernel_rfl
theorem inf156 : infoA Try.prog 156 = some (some (.nilFunc), 1, 8) := by kernel_rfl
theorem inf157 : infoA Try.prog 157 = some (some (.nilFunc), 1, 8) := by kernel_rfl
theorem inf158 : infoA Try.prog 158 = some (some (.nilFunc), 1, 8) := by kernel_rfl
theorem inf159 : infoA Try.prog 159 = some (some (.slice none 0 0), 1, 24) := by kernel_rfl
theorem inf160 : infoA Try.prog 160 = some (some (.nilFunc), 1, 8) := by kernel_rfl
theorem inf161 : infoA Try.prog 161 = some (some (.nilFunc), 1, 8) := by kernel_rfl
theorem inf162 : infoA Try.prog 162 = some (some (.nilFunc), 1, 8) := by kernel_rfl
theorem inf163 : infoA Try.prog 163 = some (some (.nilFunc), 1, 8) := by kernel_rfl
theorem inf164 : infoA Try.prog 164 = some (some (.nilFunc), 1, 8) := by kernel_rfl
theorem inf165 : infoA Try.prog 165 = some (some (.nilFunc), 1, 8) := by kernel_rfl
theorem inf166 : infoA Try.prog 166 = some (some (.nilFunc), 1, 8) := by kernel_rfl
theorem inf167 : infoA Try.prog 167 = some (some (.nilFunc), 1, 8) := by kernel_rfl
theorem inf168 : infoA Try.prog 168 = some (some (.nilFunc), 1, 8) := by kernel_rfl
theorem inf169 : infoA Try.prog 169 = some (some (.nilFunc), 1, 8) := by kernel_rfl
theorem inf170 : infoA Try.prog 170 = some (some (.nilFunc), 1, 8) := by kernel_rfl
theorem inf171 : infoA Try.prog 171 = some (some (.nilFunc), 1, 8) := by kernel_rfl
theorem inf172 : infoA Try.prog 172 = some (some (.nilFunc), 1, 8) := by kernel_rfl
theorem inf173 : infoA Try.prog 173 = some (some (.nilFunc), 1, 8) := by kernel_rfl
theorem inf174 : infoA Try.prog 174 = some (some (.int .u64 0), 1, 8) := by kernel_rfl
theorem inf175 : infoA Try.prog 175 = some (some (.nilFunc), 1, 8) := by kernel_rfl
theorem inf176 : infoA Try.prog 176 = some (some (.nilFunc), 1, 8) := by kernel_rfl
theorem inf177 : infoA Try.prog 177 = some (some (.nilFunc), 1, 8) := by kernel_rfl
theorem inf178 : infoA Try.prog 178 = some (some (.nilFunc), 1, 8) := by kernel_rfl
theorem inf179 : infoA Try.prog 179 = some (some (.nilFunc), 1, 8) := by kernel_rfl
theorem inf180 : infoA Try.prog 180 = some (some (.nilFunc), 1, 8) := by kernel_rfl
theorem inf181 : infoA Try.prog 181 = some (some (.nilFunc), 1, 8) := by kernel_rfl
theorem inf182 : infoA Try.prog 182 = some (some (.int .i64 0), 1, 8) := by kernel_rfl
theorem inf184 : infoA Try.prog 184 = some (some (.nilFunc), 1, 8) := by kernel_rfl
theorem inf185 : infoA Try.prog 185 = some (some (.nilFunc), 1, 8) := by kernel_rfl
theorem inf186 : infoA Try.prog 186 = some (some (.nilFunc), 1, 8) := by kernel_rfl
theorem inf188 : infoA Try.prog 188 = some (some (.nilFunc), 1, 8) := by kernel_rfl
theorem inf189 : infoA Try.prog 189 = some (some (.nilFunc), 1, 8) := by kernel_rfl
theorem inf190 : infoA Try.prog 190 = some (some (.nilFunc), 1, 8) := by kernel_rfl
theorem inf191 : infoA Try.prog 191 = some (some (.int .u64 0), 1, 8) := by kernel_rfl
theorem inf192 : infoA Try.prog 192 = some (some (.nilFunc), 1, 8) := by kernel_rfl
theorem inf193 : infoA Try.prog 193 = some (some (.nilFunc), 1, 8) := by kernel_rfl
theorem inf194 : infoA Try.prog 194 = some (some (.nilFunc), 1, 8) := by kernel_rfl
theorem inf195 : infoA Try.prog 195 = some (some (.nilFunc), 1, 8) := by kernel_rfl
theorem inf196 : infoA Try.prog 196 = some (some (.nilFunc), 1, 8) := by kernel_rfl
theorem inf197 : infoA Try.prog 197 = some (some (.nilFunc), 1, 8) := by kernel_rfl
theorem inf198 : infoA Try.prog 198 = some (some (.nilFunc), 1, 8) := by kernel_rfl
theorem inf199 : infoA Try.prog 199 = some (some (.int .u64 0), 1, 8) := by kernel_rfl
theorem inf200 : infoA Try.prog 200 = some (some (.nilFunc), 1, 8) := by kernel_rfl
theorem inf201 : infoA Try.prog 201 = some (some (.nilFunc), 1, 8) := by kernel_rfl
theorem inf202 : infoA Try.prog 202 = some (some (.nilFunc), 1, 8) := by kernel_rfl
theorem inf203 : infoA Try.prog 203 = some (some (.pointer none), 1, 8) := by kernel_rfl
theorem inf204 : infoA Try.prog 204 = some (some (.nilFunc), 1, 8) := by kernel_rfl
theorem inf205 : infoA Try.prog 205 = some (some (.nilFunc), 1, 8) := by kernel_rfl
theorem inf206 : infoA Try.prog 206 = some (some (.nilFunc), 1, 8) := by kernel_rfl
theorem inf207 : infoA Try.prog 207 = some (some (.pointer none), 1, 8) := by kernel_rfl
theorem inf209 : infoA Try.prog 209 = some (some (.nilFunc), 1, 8) := by kernel_rfl
theorem inf210 : infoA Try.prog 210 = some (some (.nilFunc), 1, 8) := by kernel_rfl
theorem inf211 : infoA Try.prog 211 = some (some (.nilFunc), 1, 8) := by kernel_rfl
theorem inf212 : infoA Try.prog 212 = some (some (.agg #[.pointer none, .pointer none, .pointer none, .string ⟨#[]⟩]), 4, 40) := by kernel_rfl
theorem inf213 : infoA Try.prog 213 = some (some (.agg #[.pointer none, .pointer none, .pointer none, .string ⟨#[]⟩]), 4, 40) := by kernel_rfl
theorem inf214 : infoA Try.prog 214 = some (some (.agg #[]), 0, 0) := by kernel_rfl
theorem inf215 : infoA Try.prog 215 = some (some (.agg #[]), 0, 0) := by kernel_rfl
theorem inf216 : infoA Try.prog 216 = some (some (.agg #[]), 0, 0) := by kernel_rfl
theorem inf217 : infoA Try.prog 217 = some (some (.int .u8 0), 1, 1) := by kernel_rfl
theorem inf218 : infoA Try.prog 218 = some (some (.int .u8 0), 1, 1) := by kernel_rfl
theorem inf219 : infoA Try.prog 219 = some (some (.nilFunc), 1, 8) := by kernel_rfl
theorem inf220 : infoA Try.prog 220 = some (some (.pointer none), 1, 8) := by kernel_rfl
theorem inf221 : infoA Try.prog 221 = some (some (.int .i32 0), 1, 4) := by kernel_rfl
theorem inf222 : infoA Try.prog 222 = some (some (.int .i32 0), 1, 4) := by kernel_rfl
theorem inf223 : infoA Try.prog 223 = some (some (.agg #[.int .u64 0, .int .u64 0, .int .u32 0, .int .u8 0, .int .u8 0, .int .u8 0, .int .u8 0, .nilFunc, .pointer none, .int .i32 0, .int .i32 0]), 11, 48) := by kernel_rfl
theorem inf224 : infoA Try.prog 224 = some (some (.agg #[.int .u64 0, .int .u64 0, .int .u32 0, .int .u8 0, .int .u8 0, .int .u8 0, .int .u8 0, .nilFunc, .pointer none, .int .i32 0, .int .i32 0]), 11, 48) := by kernel_rfl
theorem inf225 : infoA Try.prog 225 = some (some (.pointer none), 1, 8) := by kernel_rfl
@[go_sem] theorem sz1 : sizeA Try.prog 1 = some 1 := size_of inf1
@[go_sem] theorem zr1 : zeroA Try.prog 1 = some [.val (.nilFunc)] := zero_of inf1
@[go_sem] theorem ld1 (cs : List AV) (off : Nat) : loadA Try.prog 1 cs off = cs[off]? := load_one Try.underlying1 rfl inf1 cs off
attribute [go_sem] Try.underlying1
@[go_sem] theorem sz2 : sizeA Try.prog 2 = some 1 := size_of inf2
@[go_sem] theorem zr2 : zeroA Try.prog 2 = some [.val (.int .i64 0)] := zero_of inf2
@[go_sem] theorem ld2 (cs : List AV) (off : Nat) : loadA Try.prog 2 cs off = cs[off]? := load_one Try.underlying2 rfl inf2 cs off
attribute [go_sem] Try.underlying2
@[go_sem] theorem sz3 : sizeA Try.prog 3 = some 1 := size_of inf3
@[go_sem] theorem zr3 : zeroA Try.prog 3 = some [.val (.int .i64 0)] := zero_of inf3
@[go_sem] theorem ld3 (cs : List AV) (off : Nat) : loadA Try.prog 3 cs off = cs[off]? := load_one Try.underlying3 rfl inf3 cs off
attribute [go_sem] Try.underlying3
@[go_sem] theorem sz4 : sizeA Try.prog 4 = some 1 := size_of inf4
@[go_sem] theorem zr4 : zeroA Try.prog 4 = some [.val (.bool false)] := zero_of inf4
@[go_sem] theorem ld4 (cs : List AV) (off : Nat) : loadA Try.prog 4 cs off = cs[off]? := load_one Try.underlying4 rfl inf4 cs off
attribute [go_sem] Try.underlying4
@[go_sem] theorem sz5 : sizeA Try.prog 5 = some 1 := size_of inf5
@[go_sem] theorem zr5 : zeroA Try.prog 5 = some [.val (.int .u8 0)] := zero_of inf5
@[go_sem] theorem ld5 (cs : List AV) (off : Nat) : loadA Try.prog 5 cs off = cs[off]? := load_one Try.underlying5 rfl inf5 cs off
attribute [go_sem] Try.underlying5
@[go_sem] theorem sz6 : sizeA Try.prog 6 = some 1 := size_of inf6
@[go_sem] theorem zr6 : zeroA Try.prog 6 = some [.val (.int .u8 0)] := zero_of inf6
@[go_sem] theorem ld6 (cs : List AV) (off : Nat) : loadA Try.prog 6 cs off = cs[off]? := load_one Try.underlying6 rfl inf6 cs off
attribute [go_sem] Try.underlying6
@[go_sem] theorem sz7 : sizeA Try.prog 7 = some 4 := size_of inf7
@[go_sem] theorem zr7 : zeroA Try.prog 7 = some [.val (.int .i64 0), .val (.int .i64 0), .val (.bool false), .val (.int .u8 0)] := zero_of inf7
@[go_sem] theorem ld7 (cs : List AV) (off : Nat) : loadA Try.prog 7 cs off = if off + 4 ≤ cs.length then some (.agg ((cs.drop off).take 4)) else none := load_agg Try.underlying7 rfl inf7 cs off
@[go_sem] theorem sz8 : sizeA Try.prog 8 = some 4 := size_of inf8
@[go_sem] theorem zr8 : zeroA Try.prog 8 = some [.val (.int .i64 0), .val (.int .i64 0), .val (.bool false), .val (.int .u8 0)] := zero_of inf8
@[go_sem] theorem ld8 (cs : List AV) (off : Nat) : loadA Try.prog 8 cs off = if off + 4 ≤ cs.length then some (.agg ((cs.drop off).take 4)) else none := load_agg Try.underlying8 rfl inf8 cs off
@[go_sem] theorem sz9 : sizeA Try.prog 9 = some 1 := size_of inf9
@[go_sem] theorem zr9 : zeroA Try.prog 9 = some [.val (.string ⟨#[]⟩)] := zero_of inf9
@[go_sem] theorem ld9 (cs : List AV) (off : Nat) : loadA Try.prog 9 cs off = cs[off]? := load_one Try.underlying9 rfl inf9 cs off
attribute [go_sem] Try.underlying9
@[go_sem] theorem sz10 : sizeA Try.prog 10 = some 1 := size_of inf10
@[go_sem] theorem zr10 : zeroA Try.prog 10 = some [.val (.string ⟨#[]⟩)] := zero_of inf10
@[go_sem] theorem ld10 (cs : List AV) (off : Nat) : loadA Try.prog 10 cs off = cs[off]? := load_one Try.underlying10 rfl inf10 cs off
attribute [go_sem] Try.underlying10
@[go_sem] theorem sz11 : sizeA Try.prog 11 = some 1 := size_of inf11
@[go_sem] theorem zr11 : zeroA Try.prog 11 = some [.val (.string ⟨#[]⟩)] := zero_of inf11
@[go_sem] theorem ld11 (cs : List AV) (off : Nat) : loadA Try.prog 11 cs off = cs[off]? := load_one Try.underlying11 rfl inf11 cs off
attribute [go_sem] Try.underlying11
@[go_sem] theorem sz12 : sizeA Try.prog 12 = some 1 := size_of inf12
@[go_sem] theorem zr12 : zeroA Try.prog 12 = some [.val (.int .u64 0)] := zero_of inf12
@[go_sem] theorem ld12 (cs : List AV) (off : Nat) : loadA Try.prog 12 cs off = cs[off]? := load_one Try.underlying12 rfl inf12 cs off
attribute [go_sem] Try.underlying12
@[go_sem] theorem sz13 : sizeA Try.prog 13 = some 2 := size_of inf13
@[go_sem] theorem zr13 : zeroA Try.prog 13 = some [.val (.string ⟨#[]⟩), .val (.int .u64 0)] := zero_of inf13
@[go_sem] theorem ld13 (cs : List AV) (off : Nat) : loadA Try.prog 13 cs off = if off + 2 ≤ cs.length then some (.agg ((cs.drop off).take 2)) else none := load_agg Try.underlying13 rfl inf13 cs off
@[go_sem] theorem sz14 : sizeA Try.prog 14 = some 2 := size_of inf14
@[go_sem] theorem zr14 : zeroA Try.prog 14 = some [.val (.string ⟨#[]⟩), .val (.int .u64 0)] := zero_of inf14
@[go_sem] theorem ld14 (cs : List AV) (off : Nat) : loadA Try.prog 14 cs off = if off + 2 ≤ cs.length then some (.agg ((cs.drop off).take 2)) else none := load_agg Try.underlying14 rfl inf14 cs off
@[go_sem] theorem sz15 : sizeA Try.prog 15 = some 1 := size_of inf15
@[go_sem] theorem zr15 : zeroA Try.prog 15 = some [.val (.pointer none)] := zero_of inf15
@[go_sem] theorem ld15 (cs : List AV) (off : Nat) : loadA Try.prog 15 cs off = cs[off]? := load_one Try.underlying15 rfl inf15 cs off
attribute [go_sem] Try.underlying15
@[go_sem] theorem sz16 : sizeA Try.prog 16 = some 1 := size_of inf16
@[go_sem] theorem zr16 : zeroA Try.prog 16 = some [.val (.pointer none)] := zero_of inf16
@[go_sem] theorem ld16 (cs : List AV) (off : Nat) : loadA Try.prog 16 cs off = cs[off]? := load_one Try.underlying16 rfl inf16 cs off
attribute [go_sem] Try.underlying16
@[go_sem] theorem sz17 : sizeA Try.prog 17 = some 1 := size_of inf17
@[go_sem] theorem zr17 : zeroA Try.prog 17 = some [.val (.pointer none)] := zero_of inf17
@[go_sem] theorem ld17 (cs : List AV) (off : Nat) : loadA Try.prog 17 cs off = cs[off]? := load_one Try.underlying17 rfl inf17 cs off
attribute [go_sem] Try.underlying17
@[go_sem] theorem sz18 : sizeA Try.prog 18 = some 1 := size_of inf18
@[go_sem] theorem zr18 : zeroA Try.prog 18 = some [.val (.pointer none)] := zero_of inf18
@[go_sem] theorem ld18 (cs : List AV) (off : Nat) : loadA Try.prog 18 cs off = if off + 1 ≤ cs.length then some (.agg ((cs.drop off).take 1)) else none := load_agg Try.underlying18 rfl inf18 cs off
@[go_sem] theorem sz19 : sizeA Try.prog 19 = some 1 := size_of inf19
@[go_sem] theorem zr19 : zeroA Try.prog 19 = some [.val (.pointer none)] := zero_of inf19
@[go_sem] theorem ld19 (cs : List AV) (off : Nat) : loadA Try.prog 19 cs off = if off + 1 ≤ cs.length then some (.agg ((cs.drop off).take 1)) else none := load_agg Try.underlying19 rfl inf19 cs off
@[go_sem] theorem sz21 : sizeA Try.prog 21 = some 1 := size_of inf21
@[go_sem] theorem zr21 : zeroA Try.prog 21 = some [.val (.int .i32 0)] := zero_of inf21
@[go_sem] theorem ld21 (cs : List AV) (off : Nat) : loadA Try.prog 21 cs off = cs[off]? := load_one Try.underlying21 rfl inf21 cs off
attribute [go_sem] Try.underlying21
@[go_sem] theorem sz22 : sizeA Try.prog 22 = some 5 := size_of inf22
@[go_sem] theorem zr22 : zeroA Try.prog 22 = some [.val (.int .i64 0), .val (.int .i64 0), .val (.int .i64 0), .val (.int .i64 0), .val (.int .i64 0)] := zero_of inf22
@[go_sem] theorem ld22 (cs : List AV) (off : Nat) : loadA Try.prog 22 cs off = if off + 5 ≤ cs.length then some (.agg ((cs.drop off).take 5)) else none := load_agg Try.underlying22 rfl inf22 cs off
@[go_sem] theorem sz23 : sizeA Try.prog 23 = some 5 := size_of inf23
@[go_sem] theorem zr23 : zeroA Try.prog 23 = some [.val (.int .i64 0), .val (.int .i64 0), .val (.int .i64 0), .val (.int .i64 0), .val (.int .i64 0)] := zero_of inf23
@[go_sem] theorem ld23 (cs : List AV) (off : Nat) : loadA Try.prog 23 cs off = if off + 5 ≤ cs.length then some (.agg ((cs.drop off).take 5)) else none := load_agg Try.underlying23 rfl inf23 cs off
@[go_sem] theorem sz24 : sizeA Try.prog 24 = some 1 := size_of inf24
@[go_sem] theorem zr24 : zeroA Try.prog 24 = some [.val (.int .i64 0)] := zero_of inf24
@[go_sem] theorem ld24 (cs : List AV) (off : Nat) : loadA Try.prog 24 cs off = cs[off]? := load_one Try.underlying24 rfl inf24 cs off
attribute [go_sem] Try.underlying24
@[go_sem] theorem sz26 : sizeA Try.prog 26 = some 1 := size_of inf26
@[go_sem] theorem zr26 : zeroA Try.prog 26 = some [.val (.nilFunc)] := zero_of inf26
@[go_sem] theorem ld26 (cs : List AV) (off : Nat) : loadA Try.prog 26 cs off = cs[off]? := load_one Try.underlying26 rfl inf26 cs off
attribute [go_sem] Try.underlying26
@[go_sem] theorem sz27 : sizeA Try.prog 27 = some 1 := size_of inf27
@[go_sem] theorem zr27 : zeroA Try.prog 27 = some [.val (.pointer none)] := zero_of inf27
@[go_sem] theorem ld27 (cs : List AV) (off : Nat) : loadA Try.prog 27 cs off = cs[off]? := load_one Try.underlying27 rfl inf27 cs off
attribute [go_sem] Try.underlying27
@[go_sem] theorem sz29 : sizeA Try.prog 29 = some 1 := size_of inf29
@[go_sem] theorem zr29 : zeroA Try.prog 29 = some [.val (.nilFunc)] := zero_of inf29
@[go_sem] theorem ld29 (cs : List AV) (off : Nat) : loadA Try.prog 29 cs off = cs[off]? := load_one Try.underlying29 rfl inf29 cs off
attribute [go_sem] Try.underlying29
@[go_sem] theorem sz30 : sizeA Try.prog 30 = some 1 := size_of inf30
@[go_sem] theorem zr30 : zeroA Try.prog 30 = some [.val (.pointer none)] := zero_of inf30
@[go_sem] theorem ld30 (cs : List AV) (off : Nat) : loadA Try.prog 30 cs off = cs[off]? := load_one Try.underlying30 rfl inf30 cs off
attribute [go_sem] Try.underlying30
@[go_sem] theorem sz32 : sizeA Try.prog 32 = some 1 := size_of inf32
@[go_sem] theorem zr32 : zeroA Try.prog 32 = some [.val (.nilFunc)] := zero_of inf32
@[go_sem] theorem ld32 (cs : List AV) (off : Nat) : loadA Try.prog 32 cs off = cs[off]? := load_one Try.underlying32 rfl inf32 cs off
attribute [go_sem] Try.underlying32
@[go_sem] theorem sz33 : sizeA Try.prog 33 = some 1 := size_of inf33
@[go_sem] theorem zr33 : zeroA Try.prog 33 = some [.val (.nilFunc)] := zero_of inf33
@[go_sem] theorem ld33 (cs : List AV) (off : Nat) : loadA Try.prog 33 cs off = cs[off]? := load_one Try.underlying33 rfl inf33 cs off
attribute [go_sem] Try.underlying33
@[go_sem] theorem sz34 : sizeA Try.prog 34 = some 1 := size_of inf34
@[go_sem] theorem zr34 : zeroA Try.prog 34 = some [.val (.nilFunc)] := zero_of inf34
@[go_sem] theorem ld34 (cs : List AV) (off : Nat) : loadA Try.prog 34 cs off = cs[off]? := load_one Try.underlying34 rfl inf34 cs off
attribute [go_sem] Try.underlying34
@[go_sem] theorem sz35 : sizeA Try.prog 35 = some 1 := size_of inf35
@[go_sem] theorem zr35 : zeroA Try.prog 35 = some [.val (.nilFunc)] := zero_of inf35
@[go_sem] theorem ld35 (cs : List AV) (off : Nat) : loadA Try.prog 35 cs off = cs[off]? := load_one Try.underlying35 rfl inf35 cs off
attribute [go_sem] Try.underlying35
@[go_sem] theorem sz36 : sizeA Try.prog 36 = some 1 := size_of inf36
@[go_sem] theorem zr36 : zeroA Try.prog 36 = some [.val (.nilFunc)] := zero_of inf36
@[go_sem] theorem ld36 (cs : List AV) (off : Nat) : loadA Try.prog 36 cs off = cs[off]? := load_one Try.underlying36 rfl inf36 cs off
attribute [go_sem] Try.underlying36
@[go_sem] theorem sz37 : sizeA Try.prog 37 = some 1 := size_of inf37
@[go_sem] theorem zr37 : zeroA Try.prog 37 = some [.val (.nilFunc)] := zero_of inf37
@[go_sem] theorem ld37 (cs : List AV) (off : Nat) : loadA Try.prog 37 cs off = cs[off]? := load_one Try.underlying37 rfl inf37 cs off
attribute [go_sem] Try.underlying37
@[go_sem] theorem sz38 : sizeA Try.prog 38 = some 1 := size_of inf38
@[go_sem] theorem zr38 : zeroA Try.prog 38 = some [.val (.int .u16 0)] := zero_of inf38
@[go_sem] theorem ld38 (cs : List AV) (off : Nat) : loadA Try.prog 38 cs off = cs[off]? := load_one Try.underlying38 rfl inf38 cs off
attribute [go_sem] Try.underlying38
@[go_sem] theorem sz39 : sizeA Try.prog 39 = some 1 := size_of inf39
@[go_sem] theorem zr39 : zeroA Try.prog 39 = some [.val (.slice none 0 0)] := zero_of inf39
@[go_sem] theorem ld39 (cs : List AV) (off : Nat) : loadA Try.prog 39 cs off = cs[off]? := load_one Try.underlying39 rfl inf39 cs off
attribute [go_sem] Try.underlying39
@[go_sem] theorem sz40 : sizeA Try.prog 40 = some 1 := size_of inf40
@[go_sem] theorem zr40 : zeroA Try.prog 40 = some [.val (.map none)] := zero_of inf40
@[go_sem] theorem ld40 (cs : List AV) (off : Nat) : loadA Try.prog 40 cs off = cs[off]? := load_one Try.underlying40 rfl inf40 cs off
attribute [go_sem] Try.underlying40
@[go_sem] theorem sz41 : sizeA Try.prog 41 = some 5 := size_of inf41
@[go_sem] theorem zr41 : zeroA Try.prog 41 = some [.val (.int .u8 0), .val (.int .u8 0), .val (.int .u8 0), .val (.int .u8 0), .val (.int .u8 0)] := zero_of inf41
@[go_sem] theorem ld41 (cs : List AV) (off : Nat) : loadA Try.prog 41 cs off = if off + 5 ≤ cs.length then some (.agg ((cs.drop off).take 5)) else none := load_agg Try.underlying41 rfl inf41 cs off
@[go_sem] theorem sz42 : sizeA Try.prog 42 = some 5 := size_of inf42
@[go_sem] theorem zr42 : zeroA Try.prog 42 = some [.val (.int .u8 0), .val (.int .u8 0), .val (.int .u8 0), .val (.int .u8 0), .val (.int .u8 0)] := zero_of inf42
@[go_sem] theorem ld42 (cs : List AV) (off : Nat) : loadA Try.prog 42 cs off = if off + 5 ≤ cs.length then some (.agg ((cs.drop off).take 5)) else none := load_agg Try.underlying42 rfl inf42 cs off
@[go_sem] theorem sz43 : sizeA Try.prog 43 = some 1 := size_of inf43
@[go_sem] theorem zr43 : zeroA Try.prog 43 = some [.val (.nilFunc)] := zero_of inf43
@[go_sem] theorem ld43 (cs : List AV) (off : Nat) : loadA Try.prog 43 cs off = cs[off]? := load_one Try.underlying43 rfl inf43 cs off
attribute [go_sem] Try.underlying43
@[go_sem] theorem sz44 : sizeA Try.prog 44 = some 1 := size_of inf44
@[go_sem] theorem zr44 : zeroA Try.prog 44 = some [.val (.slice none 0 0)] := zero_of inf44
@[go_sem] theorem ld44 (cs : List AV) (off : Nat) : loadA Try.prog 44 cs off = cs[off]? := load_one Try.underlying44 rfl inf44 cs off
attribute [go_sem] Try.underlying44
@[go_sem] theorem sz45 : sizeA Try.prog 45 = some 1 := size_of inf45
@[go_sem] theorem zr45 : zeroA Try.prog 45 = some [.val (.nilFunc)] := zero_of inf45
@[go_sem] theorem ld45 (cs : List AV) (off : Nat) : loadA Try.prog 45 cs off = cs[off]? := load_one Try.underlying45 rfl inf45 cs off
attribute [go_sem] Try.underlying45
@[go_sem] theorem sz46 : sizeA Try.prog 46 = some 1 := size_of inf46
@[go_sem] theorem zr46 : zeroA Try.prog 46 = some [.val (.slice none 0 0)] := zero_of inf46
@[go_sem] theorem ld46 (cs : List AV) (off : Nat) : loadA Try.prog 46 cs off = cs[off]? := load_one Try.underlying46 rfl inf46 cs off
attribute [go_sem] Try.underlying46
@[go_sem] theorem sz48 : sizeA Try.prog 48 = some 1 := size_of inf48
@[go_sem] theorem zr48 : zeroA Try.prog 48 = some [.val (.nilFunc)] := zero_of inf48
@[go_sem] theorem ld48 (cs : List AV) (off : Nat) : loadA Try.prog 48 cs off = cs[off]? := load_one Try.underlying48 rfl inf48 cs off
attribute [go_sem] Try.underlying48
@[go_sem] theorem sz49 : sizeA Try.prog 49 = some 1 := size_of inf49
@[go_sem] theorem zr49 : zeroA Try.prog 49 = some [.val (.nilFunc)] := zero_of inf49
@[go_sem] theorem ld49 (cs : List AV) (off : Nat) : loadA Try.prog 49 cs off = cs[off]? := load_one Try.underlying49 rfl inf49 cs off
attribute [go_sem] Try.underlying49
@[go_sem] theorem sz50 : sizeA Try.prog 50 = some 1 := size_of inf50
@[go_sem] theorem zr50 : zeroA Try.prog 50 = some [.val (.nilFunc)] := zero_of inf50
@[go_sem] theorem ld50 (cs : List AV) (off : Nat) : loadA Try.prog 50 cs off = cs[off]? := load_one Try.underlying50 rfl inf50 cs off
attribute [go_sem] Try.underlying50
@[go_sem] theorem sz51 : sizeA Try.prog 51 = some 1 := size_of inf51
@[go_sem] theorem zr51 : zeroA Try.prog 51 = some [.val (.nilFunc)] := zero_of inf51
@[go_sem] theorem ld51 (cs : List AV) (off : Nat) : loadA Try.prog 51 cs off = cs[off]? := load_one Try.underlying51 rfl inf51 cs off
attribute [go_sem] Try.underlying51
@[go_sem] theorem sz52 : sizeA Try.prog 52 = some 7 := size_of inf52
@[go_sem] theorem zr52 : zeroA Try.prog 52 = some [.val (.int .i64 0), .val (.int .i64 0), .val (.int .i64 0), .val (.int .i64 0), .val (.int .i64 0), .val (.bool false), .val (.int .i64 0)] := zero_of inf52
@[go_sem] theorem ld52 (cs : List AV) (off : Nat) : loadA Try.prog 52 cs off = if off + 7 ≤ cs.length then some (.agg ((cs.drop off).take 7)) else none := load_agg Try.underlying52 rfl inf52 cs off
@[go_sem] theorem sz53 : sizeA Try.prog 53 = some 7 := size_of inf53
@[go_sem] theorem zr53 : zeroA Try.prog 53 = some [.val (.int .i64 0), .val (.int .i64 0), .val (.int .i64 0), .val (.int .i64 0), .val (.int .i64 0), .val (.bool false), .val (.int .i64 0)] := zero_of inf53
@[go_sem] theorem ld53 (cs : List AV) (off : Nat) : loadA Try.prog 53 cs off = if off + 7 ≤ cs.length then some (.agg ((cs.drop off).take 7)) else none := load_agg Try.underlying53 rfl inf53 cs off
@[go_sem] theorem sz55 : sizeA Try.prog 55 = some 1 := size_of inf55
@[go_sem] theorem zr55 : zeroA Try.prog 55 = some [.val (.nilFunc)] := zero_of inf55
@[go_sem] theorem ld55 (cs : List AV) (off : Nat) : loadA Try.prog 55 cs off = cs[off]? := load_one Try.underlying55 rfl inf55 cs off
attribute [go_sem] Try.underlying55
@[go_sem] theorem sz56 : sizeA Try.prog 56 = some 1 := size_of inf56
@[go_sem] theorem zr56 : zeroA Try.prog 56 = some [.val (.nilFunc)] := zero_of inf56
@[go_sem] theorem ld56 (cs : List AV) (off : Nat) : loadA Try.prog 56 cs off = cs[off]? := load_one Try.underlying56 rfl inf56 cs off
attribute [go_sem] Try.underlying56
@[go_sem] theorem sz57 : sizeA Try.prog 57 = some 1 := size_of inf57
@[go_sem] theorem zr57 : zeroA Try.prog 57 = some [.val (.slice none 0 0)] := zero_of inf57
@[go_sem] theorem ld57 (cs : List AV) (off : Nat) : loadA Try.prog 57 cs off = cs[off]? := load_one Try.underlying57 rfl inf57 cs off
attribute [go_sem] Try.underlying57
@[go_sem] theorem sz58 : sizeA Try.prog 58 = some 3 := size_of inf58
@[go_sem] theorem zr58 : zeroA Try.prog 58 = some [.val (.int .u8 0), .val (.int .u8 0), .val (.int .u8 0)] := zero_of inf58
@[go_sem] theorem ld58 (cs : List AV) (off : Nat) : loadA Try.prog 58 cs off = if off + 3 ≤ cs.length then some (.agg ((cs.drop off).take 3)) else none := load_agg Try.underlying58 rfl inf58 cs off
@[go_sem] theorem sz59 : sizeA Try.prog 59 = some 1 := size_of inf59
@[go_sem] theorem zr59 : zeroA Try.prog 59 = some [.val (.nilFunc)] := zero_of inf59
@[go_sem] theorem ld59 (cs : List AV) (off : Nat) : loadA Try.prog 59 cs off = cs[off]? := load_one Try.underlying59 rfl inf59 cs off
attribute [go_sem] Try.underlying59
@[go_sem] theorem sz60 : sizeA Try.prog 60 = some 1 := size_of inf60
@[go_sem] theorem zr60 : zeroA Try.prog 60 = some [.val (.nilFunc)] := zero_of inf60
@[go_sem] theorem ld60 (cs : List AV) (off : Nat) : loadA Try.prog 60 cs off = cs[off]? := load_one Try.underlying60 rfl inf60 cs off
attribute [go_sem] Try.underlying60
@[go_sem] theorem sz61 : sizeA Try.prog 61 = some 1 := size_of inf61
@[go_sem] theorem zr61 : zeroA Try.prog 61 = some [.val (.slice none 0 0)] := zero_of inf61
@[go_sem] theorem ld61 (cs : List AV) (off : Nat) : loadA Try.prog 61 cs off = cs[off]? := load_one Try.underlying61 rfl inf61 cs off
attribute [go_sem] Try.underlying61
@[go_sem] theorem sz62 : sizeA Try.prog 62 = some 1 := size_of inf62
@[go_sem] theorem zr62 : zeroA Try.prog 62 = some [.val (.nilFunc)] := zero_of inf62
@[go_sem] theorem ld62 (cs : List AV) (off : Nat) : loadA Try.prog 62 cs off = cs[off]? := load_one Try.underlying62 rfl inf62 cs off
attribute [go_sem] Try.underlying62
@[go_sem] theorem sz63 : sizeA Try.prog 63 = some 1 := size_of inf63
@[go_sem] theorem zr63 : zeroA Try.prog 63 = some [.val (.slice none 0 0)] := zero_of inf63
@[go_sem] theorem ld63 (cs : List AV) (off : Nat) : loadA Try.prog 63 cs off = cs[off]? := load_one Try.underlying63 rfl inf63 cs off
attribute [go_sem] Try.underlying63
@[go_sem] theorem sz64 : sizeA Try.prog 64 = some 10 := size_of inf64
@[go_sem] theorem zr64 : zeroA Try.prog 64 = some [.val (.int .u8 0), .val (.int .i64 0), .val (.int .i64 0), .val (.int .i64 0), .val (.int .i64 0), .val (.int .i64 0), .val (.int .i64 0), .val (.int .i64 0), .val (.int .i64 0), .val (.slice none 0 0)] := zero_of inf64
@[go_sem] theorem ld64 (cs : List AV) (off : Nat) : loadA Try.prog 64 cs off = if off + 10 ≤ cs.length then some (.agg ((cs.drop off).take 10)) else none := load_agg Try.underlying64 rfl inf64 cs off
@[go_sem] theorem sz65 : sizeA Try.prog 65 = some 10 := size_of inf65
@[go_sem] theorem zr65 : zeroA Try.prog 65 = some [.val (.int .u8 0), .val (.int .i64 0), .val (.int .i64 0), .val (.int .i64 0), .val (.int .i64 0), .val (.int .i64 0), .val (.int .i64 0), .val (.int .i64 0), .val (.int .i64 0), .val (.slice none 0 0)] := zero_of inf65
@[go_sem] theorem ld65 (cs : List AV) (off : Nat) : loadA Try.prog 65 cs off = if off + 10 ≤ cs.length then some (.agg ((cs.drop off).take 10)) else none := load_agg Try.underlying65 rfl inf65 cs off
@[go_sem] theorem sz67 : sizeA Try.prog 67 = some 1 := size_of inf67
@[go_sem] theorem zr67 : zeroA Try.prog 67 = some [.val (.nilFunc)] := zero_of inf67
@[go_sem] theorem ld67 (cs : List AV) (off : Nat) : loadA Try.prog 67 cs off = cs[off]? := load_one Try.underlying67 rfl inf67 cs off
attribute [go_sem] Try.underlying67
@[go_sem] theorem sz68 : sizeA Try.prog 68 = some 1 := size_of inf68
@[go_sem] theorem zr68 : zeroA Try.prog 68 = some [.val (.nilFunc)] := zero_of inf68
@[go_sem] theorem ld68 (cs : List AV) (off : Nat) : loadA Try.prog 68 cs off = cs[off]? := load_one Try.underlying68 rfl inf68 cs off
attribute [go_sem] Try.underlying68
@[go_sem] theorem sz69 : sizeA Try.prog 69 = some 2 := size_of inf69
@[go_sem] theorem zr69 : zeroA Try.prog 69 = some [.val (.int .i64 0), .val (.int .i64 0)] := zero_of inf69
@[go_sem] theorem ld69 (cs : List AV) (off : Nat) : loadA Try.prog 69 cs off = if off + 2 ≤ cs.length then some (.agg ((cs.drop off).take 2)) else none := load_agg Try.underlying69 rfl inf69 cs off
@[go_sem] theorem sz70 : sizeA Try.prog 70 = some 2 := size_of inf70
@[go_sem] theorem zr70 : zeroA Try.prog 70 = some [.val (.int .i64 0), .val (.int .i64 0)] := zero_of inf70
@[go_sem] theorem ld70 (cs : List AV) (off : Nat) : loadA Try.prog 70 cs off = if off + 2 ≤ cs.length then some (.agg ((cs.drop off).take 2)) else none := load_agg Try.underlying70 rfl inf70 cs off
@[go_sem] theorem sz71 : sizeA Try.prog 71 = some 1 := size_of inf71
@[go_sem] theorem zr71 : zeroA Try.prog 71 = some [.val (.nilFunc)] := zero_of inf71
@[go_sem] theorem ld71 (cs : List AV) (off : Nat) : loadA Try.prog 71 cs off = cs[off]? := load_one Try.underlying71 rfl inf71 cs off
attribute [go_sem] Try.underlying71
@[go_sem] theorem sz72 : sizeA Try.prog 72 = some 3 := size_of inf72
@[go_sem] theorem zr72 : zeroA Try.prog 72 = some [.val (.int .i64 0), .val (.int .i64 0), .val (.slice none 0 0)] := zero_of inf72
@[go_sem] theorem ld72 (cs : List AV) (off : Nat) : loadA Try.prog 72 cs off = if off + 3 ≤ cs.length then some (.agg ((cs.drop off).take 3)) else none := load_agg Try.underlying72 rfl inf72 cs off
@[go_sem] theorem sz73 : sizeA Try.prog 73 = some 3 := size_of inf73
@[go_sem] theorem zr73 : zeroA Try.prog 73 = some [.val (.int .i64 0), .val (.int .i64 0), .val (.slice none 0 0)] := zero_of inf73
@[go_sem] theorem ld73 (cs : List AV) (off : Nat) : loadA Try.prog 73 cs off = if off + 3 ≤ cs.length then some (.agg ((cs.drop off).take 3)) else none := load_agg Try.underlying73 rfl inf73 cs off
@[go_sem] theorem sz74 : sizeA Try.prog 74 = some 1 := size_of inf74
@[go_sem] theorem zr74 : zeroA Try.prog 74 = some [.val (.nilFunc)] := zero_of inf74
@[go_sem] theorem ld74 (cs : List AV) (off : Nat) : loadA Try.prog 74 cs off = cs[off]? := load_one Try.underlying74 rfl inf74 cs off
attribute [go_sem] Try.underlying74
@[go_sem] theorem sz75 : sizeA Try.prog 75 = some 1 := size_of inf75
@[go_sem] theorem zr75 : zeroA Try.prog 75 = some [.val (.slice none 0 0)] := zero_of inf75
@[go_sem] theorem ld75 (cs : List AV) (off : Nat) : loadA Try.prog 75 cs off = cs[off]? := load_one Try.underlying75 rfl inf75 cs off
attribute [go_sem] Try.underlying75
@[go_sem] theorem sz76 : sizeA Try.prog 76 = some 1 := size_of inf76
@[go_sem] theorem zr76 : zeroA Try.prog 76 = some [.val (.pointer none)] := zero_of inf76
@[go_sem] theorem ld76 (cs : List AV) (off : Nat) : loadA Try.prog 76 cs off = cs[off]? := load_one Try.underlying76 rfl inf76 cs off
attribute [go_sem] Try.underlying76
@[go_sem] theorem sz77 : sizeA Try.prog 77 = some 1 := size_of inf77
@[go_sem] theorem zr77 : zeroA Try.prog 77 = some [.val (.nilFunc)] := zero_of inf77
@[go_sem] theorem ld77 (cs : List AV) (off : Nat) : loadA Try.prog 77 cs off = cs[off]? := load_one Try.underlying77 rfl inf77 cs off
attribute [go_sem] Try.underlying77
@[go_sem] theorem sz78 : sizeA Try.prog 78 = some 1 := size_of inf78
@[go_sem] theorem zr78 : zeroA Try.prog 78 = some [.val (.pointer none)] := zero_of inf78
@[go_sem] theorem ld78 (cs : List AV) (off : Nat) : loadA Try.prog 78 cs off = cs[off]? := load_one Try.underlying78 rfl inf78 cs off
attribute [go_sem] Try.underlying78
@[go_sem] theorem sz79 : sizeA Try.prog 79 = some 1 := size_of inf79
@[go_sem] theorem zr79 : zeroA Try.prog 79 = some [.val (.slice none 0 0)] := zero_of inf79
@[go_sem] theorem ld79 (cs : List AV) (off : Nat) : loadA Try.prog 79 cs off = if off + 1 ≤ cs.length then some (.agg ((cs.drop off).take 1)) else none := load_agg Try.underlying79 rfl inf79 cs off
@[go_sem] theorem sz80 : sizeA Try.prog 80 = some 1 := size_of inf80
@[go_sem] theorem zr80 : zeroA Try.prog 80 = some [.val (.slice none 0 0)] := zero_of inf80
@[go_sem] theorem ld80 (cs : List AV) (off : Nat) : loadA Try.prog 80 cs off = if off + 1 ≤ cs.length then some (.agg ((cs.drop off).take 1)) else none := load_agg Try.underlying80 rfl inf80 cs off
@[go_sem] theorem sz81 : sizeA Try.prog 81 = some 1 := size_of inf81
@[go_sem] theorem zr81 : zeroA Try.prog 81 = some [.val (.nilFunc)] := zero_of inf81
@[go_sem] theorem ld81 (cs : List AV) (off : Nat) : loadA Try.prog 81 cs off = cs[off]? := load_one Try.underlying81 rfl inf81 cs off
attribute [go_sem] Try.underlying81
@[go_sem] theorem sz82 : sizeA Try.prog 82 = some 1 := size_of inf82
@[go_sem] theorem zr82 : zeroA Try.prog 82 = some [.val (.nilFunc)] := zero_of inf82
@[go_sem] theorem ld82 (cs : List AV) (off : Nat) : loadA Try.prog 82 cs off = cs[off]? := load_one Try.underlying82 rfl inf82 cs off
attribute [go_sem] Try.underlying82
@[go_sem] theorem sz83 : sizeA Try.prog 83 = some 1 := size_of inf83
@[go_sem] theorem zr83 : zeroA Try.prog 83 = some [.val (.nilFunc)] := zero_of inf83
@[go_sem] theorem ld83 (cs : List AV) (off : Nat) : loadA Try.prog 83 cs off = cs[off]? := load_one Try.underlying83 rfl inf83 cs off
attribute [go_sem] Try.underlying83
@[go_sem] theorem sz84 : sizeA Try.prog 84 = some 1 := size_of inf84
@[go_sem] theorem zr84 : zeroA Try.prog 84 = some [.val (.nilFunc)] := zero_of inf84
@[go_sem] theorem ld84 (cs : List AV) (off : Nat) : loadA Try.prog 84 cs off = cs[off]? := load_one Try.underlying84 rfl inf84 cs off
attribute [go_sem] Try.underlying84
@[go_sem] theorem sz85 : sizeA Try.prog 85 = some 1 := size_of inf85
@[go_sem] theorem zr85 : zeroA Try.prog 85 = some [.val (.slice none 0 0)] := zero_of inf85
@[go_sem] theorem ld85 (cs : List AV) (off : Nat) : loadA Try.prog 85 cs off = cs[off]? := load_one Try.underlying85 rfl inf85 cs off
attribute [go_sem] Try.underlying85
@[go_sem] theorem sz86 : sizeA Try.prog 86 = some 1 := size_of inf86
@[go_sem] theorem zr86 : zeroA Try.prog 86 = some [.val (.slice none 0 0)] := zero_of inf86
@[go_sem] theorem ld86 (cs : List AV) (off : Nat) : loadA Try.prog 86 cs off = cs[off]? := load_one Try.underlying86 rfl inf86 cs off
attribute [go_sem] Try.underlying86
@[go_sem] theorem sz88 : sizeA Try.prog 88 = some 1 := size_of inf88
@[go_sem] theorem zr88 : zeroA Try.prog 88 = some [.val (.nilFunc)] := zero_of inf88
@[go_sem] theorem ld88 (cs : List AV) (off : Nat) : loadA Try.prog 88 cs off = cs[off]? := load_one Try.underlying88 rfl inf88 cs off
attribute [go_sem] Try.underlying88
@[go_sem] theorem sz89 : sizeA Try.prog 89 = some 1 := size_of inf89
@[go_sem] theorem zr89 : zeroA Try.prog 89 = some [.val (.nilFunc)] := zero_of inf89
@[go_sem] theorem ld89 (cs : List AV) (off : Nat) : loadA Try.prog 89 cs off = cs[off]? := load_one Try.underlying89 rfl inf89 cs off
attribute [go_sem] Try.underlying89
@[go_sem] theorem sz90 : sizeA Try.prog 90 = some 1 := size_of inf90
@[go_sem] theorem zr90 : zeroA Try.prog 90 = some [.val (.slice none 0 0)] := zero_of inf90
@[go_sem] theorem ld90 (cs : List AV) (off : Nat) : loadA Try.prog 90 cs off = cs[off]? := load_one Try.underlying90 rfl inf90 cs off
attribute [go_sem] Try.underlying90
@[go_sem] theorem sz91 : sizeA Try.prog 91 = some 1 := size_of inf91
@[go_sem] theorem zr91 : zeroA Try.prog 91 = some [.val (.int .u32 0)] := zero_of inf91
@[go_sem] theorem ld91 (cs : List AV) (off : Nat) : loadA Try.prog 91 cs off = cs[off]? := load_one Try.underlying91 rfl inf91 cs off
attribute [go_sem] Try.underlying91
@[go_sem] theorem sz92 : sizeA Try.prog 92 = some 1 := size_of inf92
@[go_sem] theorem zr92 : zeroA Try.prog 92 = some [.val (.nilFunc)] := zero_of inf92
@[go_sem] theorem ld92 (cs : List AV) (off : Nat) : loadA Try.prog 92 cs off = cs[off]? := load_one Try.underlying92 rfl inf92 cs off
attribute [go_sem] Try.underlying92
@[go_sem] theorem sz93 : sizeA Try.prog 93 = some 2 := size_of inf93
@[go_sem] theorem zr93 : zeroA Try.prog 93 = some [.val (.int .i64 0), .val (.int .i64 0)] := zero_of inf93
@[go_sem] theorem ld93 (cs : List AV) (off : Nat) : loadA Try.prog 93 cs off = if off + 2 ≤ cs.length then some (.agg ((cs.drop off).take 2)) else none := load_agg Try.underlying93 rfl inf93 cs off
@[go_sem] theorem sz94 : sizeA Try.prog 94 = some 2 := size_of inf94
@[go_sem] theorem zr94 : zeroA Try.prog 94 = some [.val (.int .i64 0), .val (.int .i64 0)] := zero_of inf94
@[go_sem] theorem ld94 (cs : List AV) (off : Nat) : loadA Try.prog 94 cs off = if off + 2 ≤ cs.length then some (.agg ((cs.drop off).take 2)) else none := load_agg Try.underlying94 rfl inf94 cs off
@[go_sem] theorem sz95 : sizeA Try.prog 95 = some 1 := size_of inf95
@[go_sem] theorem zr95 : zeroA Try.prog 95 = some [.val (.nilFunc)] := zero_of inf95
@[go_sem] theorem ld95 (cs : List AV) (off : Nat) : loadA Try.prog 95 cs off = cs[off]? := load_one Try.underlying95 rfl inf95 cs off
attribute [go_sem] Try.underlying95
@[go_sem] theorem sz97 : sizeA Try.prog 97 = some 1 := size_of inf97
@[go_sem] theorem zr97 : zeroA Try.prog 97 = some [.val (.nilFunc)] := zero_of inf97
@[go_sem] theorem ld97 (cs : List AV) (off : Nat) : loadA Try.prog 97 cs off = cs[off]? := load_one Try.underlying97 rfl inf97 cs off
attribute [go_sem] Try.underlying97
@[go_sem] theorem sz98 : sizeA Try.prog 98 = some 1 := size_of inf98
@[go_sem] theorem zr98 : zeroA Try.prog 98 = some [.val (.nilFunc)] := zero_of inf98
@[go_sem] theorem ld98 (cs : List AV) (off : Nat) : loadA Try.prog 98 cs off = cs[off]? := load_one Try.underlying98 rfl inf98 cs off
attribute [go_sem] Try.underlying98
@[go_sem] theorem sz99 : sizeA Try.prog 99 = some 1 := size_of inf99
@[go_sem] theorem zr99 : zeroA Try.prog 99 = some [.val (.nilFunc)] := zero_of inf99
@[go_sem] theorem ld99 (cs : List AV) (off : Nat) : loadA Try.prog 99 cs off = cs[off]? := load_one Try.underlying99 rfl inf99 cs off
attribute [go_sem] Try.underlying99
@[go_sem] theorem sz100 : sizeA Try.prog 100 = some 1 := size_of inf100
@[go_sem] theorem zr100 : zeroA Try.prog 100 = some [.val (.nilFunc)] := zero_of inf100
@[go_sem] theorem ld100 (cs : List AV) (off : Nat) : loadA Try.prog 100 cs off = cs[off]? := load_one Try.underlying100 rfl inf100 cs off
attribute [go_sem] Try.underlying100
@[go_sem] theorem sz101 : sizeA Try.prog 101 = some 1 := size_of inf101
@[go_sem] theorem zr101 : zeroA Try.prog 101 = some [.val (.slice none 0 0)] := zero_of inf101
@[go_sem] theorem ld101 (cs : List AV) (off : Nat) : loadA Try.prog 101 cs off = cs[off]? := load_one Try.underlying101 rfl inf101 cs off
attribute [go_sem] Try.underlying101
@[go_sem] theorem sz102 : sizeA Try.prog 102 = some 1 := size_of inf102
@[go_sem] theorem zr102 : zeroA Try.prog 102 = some [.val (.slice none 0 0)] := zero_of inf102
@[go_sem] theorem ld102 (cs : List AV) (off : Nat) : loadA Try.prog 102 cs off = cs[off]? := load_one Try.underlying102 rfl inf102 cs off
attribute [go_sem] Try.underlying102
@[go_sem] theorem sz103 : sizeA Try.prog 103 = some 4 := size_of inf103
@[go_sem] theorem zr103 : zeroA Try.prog 103 = some [.val (.int .u16 0), .val (.int .u16 0), .val (.bool false), .val (.slice none 0 0)] := zero_of inf103
@[go_sem] theorem ld103 (cs : List AV) (off : Nat) : loadA Try.prog 103 cs off = if off + 4 ≤ cs.length then some (.agg ((cs.drop off).take 4)) else none := load_agg Try.underlying103 rfl inf103 cs off
@[go_sem] theorem sz104 : sizeA Try.prog 104 = some 4 := size_of inf104
@[go_sem] theorem zr104 : zeroA Try.prog 104 = some [.val (.int .u16 0), .val (.int .u16 0), .val (.bool false), .val (.slice none 0 0)] := zero_of inf104
@[go_sem] theorem ld104 (cs : List AV) (off : Nat) : loadA Try.prog 104 cs off = if off + 4 ≤ cs.length then some (.agg ((cs.drop off).take 4)) else none := load_agg Try.underlying104 rfl inf104 cs off
@[go_sem] theorem sz105 : sizeA Try.prog 105 = some 1 := size_of inf105
@[go_sem] theorem zr105 : zeroA Try.prog 105 = some [.val (.nilFunc)] := zero_of inf105
@[go_sem] theorem ld105 (cs : List AV) (off : Nat) : loadA Try.prog 105 cs off = cs[off]? := load_one Try.underlying105 rfl inf105 cs off
attribute [go_sem] Try.underlying105
@[go_sem] theorem sz106 : sizeA Try.prog 106 = some 1 := size_of inf106
@[go_sem] theorem zr106 : zeroA Try.prog 106 = some [.val (.map none)] := zero_of inf106
@[go_sem] theorem ld106 (cs : List AV) (off : Nat) : loadA Try.prog 106 cs off = cs[off]? := load_one Try.underlying106 rfl inf106 cs off
attribute [go_sem] Try.underlying106
@[go_sem] theorem sz107 : sizeA Try.prog 107 = some 1 := size_of inf107
@[go_sem] theorem zr107 : zeroA Try.prog 107 = some [.val (.map none)] := zero_of inf107
@[go_sem] theorem ld107 (cs : List AV) (off : Nat) : loadA Try.prog 107 cs off = cs[off]? := load_one Try.underlying107 rfl inf107 cs off
attribute [go_sem] Try.underlying107
@[go_sem] theorem sz108 : sizeA Try.prog 108 = some 7 := size_of inf108
@[go_sem] theorem zr108 : zeroA Try.prog 108 = some [.val (.int .i64 0), .val (.int .i64 0), .val (.int .i64 0), .val (.slice none 0 0), .val (.map none), .val (.map none), .val (.map none)] := zero_of inf108
@[go_sem] theorem ld108 (cs : List AV) (off : Nat) : loadA Try.prog 108 cs off = if off + 7 ≤ cs.length then some (.agg ((cs.drop off).take 7)) else none := load_agg Try.underlying108 rfl inf108 cs off
@[go_sem] theorem sz109 : sizeA Try.prog 109 = some 7 := size_of inf109
@[go_sem] theorem zr109 : zeroA Try.prog 109 = some [.val (.int .i64 0), .val (.int .i64 0), .val (.int .i64 0), .val (.slice none 0 0), .val (.map none), .val (.map none), .val (.map none)] := zero_of inf109
@[go_sem] theorem ld109 (cs : List AV) (off : Nat) : loadA Try.prog 109 cs off = if off + 7 ≤ cs.length then some (.agg ((cs.drop off).take 7)) else none := load_agg Try.underlying109 rfl inf109 cs off
@[go_sem] theorem sz110 : sizeA Try.prog 110 = some 1 := size_of inf110
@[go_sem] theorem zr110 : zeroA Try.prog 110 = some [.val (.slice none 0 0)] := zero_of inf110
@[go_sem] theorem ld110 (cs : List AV) (off : Nat) : loadA Try.prog 110 cs off = cs[off]? := load_one Try.underlying110 rfl inf110 cs off
attribute [go_sem] Try.underlying110
@[go_sem] theorem sz111 : sizeA Try.prog 111 = some 1 := size_of inf111
@[go_sem] theorem zr111 : zeroA Try.prog 111 = some [.val (.map none)] := zero_of inf111
@[go_sem] theorem ld111 (cs : List AV) (off : Nat) : loadA Try.prog 111 cs off = if off + 1 ≤ cs.length then some (.agg ((cs.drop off).take 1)) else none := load_agg Try.underlying111 rfl inf111 cs off
@[go_sem] theorem sz112 : sizeA Try.prog 112 = some 1 := size_of inf112
@[go_sem] theorem zr112 : zeroA Try.prog 112 = some [.val (.map none)] := zero_of inf112
@[go_sem] theorem ld112 (cs : List AV) (off : Nat) : loadA Try.prog 112 cs off = if off + 1 ≤ cs.length then some (.agg ((cs.drop off).take 1)) else none := load_agg Try.underlying112 rfl inf112 cs off
@[go_sem] theorem sz113 : sizeA Try.prog 113 = some 1 := size_of inf113
@[go_sem] theorem zr113 : zeroA Try.prog 113 = some [.val (.slice none 0 0)] := zero_of inf113
@[go_sem] theorem ld113 (cs : List AV) (off : Nat) : loadA Try.prog 113 cs off = cs[off]? := load_one Try.underlying113 rfl inf113 cs off
attribute [go_sem] Try.underlying113
@[go_sem] theorem sz114 : sizeA Try.prog 114 = some 1 := size_of inf114
@[go_sem] theorem zr114 : zeroA Try.prog 114 = some [.val (.nilFunc)] := zero_of inf114
@[go_sem] theorem ld114 (cs : List AV) (off : Nat) : loadA Try.prog 114 cs off = cs[off]? := load_one Try.underlying114 rfl inf114 cs off
attribute [go_sem] Try.underlying114
@[go_sem] theorem sz115 : sizeA Try.prog 115 = some 1 := size_of inf115
@[go_sem] theorem zr115 : zeroA Try.prog 115 = some [.val (.nilFunc)] := zero_of inf115
@[go_sem] theorem ld115 (cs : List AV) (off : Nat) : loadA Try.prog 115 cs off = cs[off]? := load_one Try.underlying115 rfl inf115 cs off
attribute [go_sem] Try.underlying115
@[go_sem] theorem sz116 : sizeA Try.prog 116 = some 1 := size_of inf116
@[go_sem] theorem zr116 : zeroA Try.prog 116 = some [.val (.nilFunc)] := zero_of inf116
@[go_sem] theorem ld116 (cs : List AV) (off : Nat) : loadA Try.prog 116 cs off = cs[off]? := load_one Try.underlying116 rfl inf116 cs off
attribute [go_sem] Try.underlying116
@[go_sem] theorem sz117 : sizeA Try.prog 117 = some 1 := size_of inf117
@[go_sem] theorem zr117 : zeroA Try.prog 117 = some [.val (.nilFunc)] := zero_of inf117
@[go_sem] theorem ld117 (cs : List AV) (off : Nat) : loadA Try.prog 117 cs off = cs[off]? := load_one Try.underlying117 rfl inf117 cs off
attribute [go_sem] Try.underlying117
@[go_sem] theorem sz119 : sizeA Try.prog 119 = some 1 := size_of inf119
@[go_sem] theorem zr119 : zeroA Try.prog 119 = some [.val (.nilFunc)] := zero_of inf119
@[go_sem] theorem ld119 (cs : List AV) (off : Nat) : loadA Try.prog 119 cs off = cs[off]? := load_one Try.underlying119 rfl inf119 cs off
attribute [go_sem] Try.underlying119
@[go_sem] theorem sz120 : sizeA Try.prog 120 = some 1 := size_of inf120
@[go_sem] theorem zr120 : zeroA Try.prog 120 = some [.val (.nilFunc)] := zero_of inf120
@[go_sem] theorem ld120 (cs : List AV) (off : Nat) : loadA Try.prog 120 cs off = cs[off]? := load_one Try.underlying120 rfl inf120 cs off
attribute [go_sem] Try.underlying120
@[go_sem] theorem sz121 : sizeA Try.prog 121 = some 1 := size_of inf121
@[go_sem] theorem zr121 : zeroA Try.prog 121 = some [.val (.nilFunc)] := zero_of inf121
@[go_sem] theorem ld121 (cs : List AV) (off : Nat) : loadA Try.prog 121 cs off = cs[off]? := load_one Try.underlying121 rfl inf121 cs off
attribute [go_sem] Try.underlying121
@[go_sem] theorem sz122 : sizeA Try.prog 122 = some 1 := size_of inf122
@[go_sem] theorem zr122 : zeroA Try.prog 122 = some [.val (.nilFunc)] := zero_of inf122
@[go_sem] theorem ld122 (cs : List AV) (off : Nat) : loadA Try.prog 122 cs off = cs[off]? := load_one Try.underlying122 rfl inf122 cs off
attribute [go_sem] Try.underlying122
@[go_sem] theorem sz123 : sizeA Try.prog 123 = some 1 := size_of inf123
@[go_sem] theorem zr123 : zeroA Try.prog 123 = some [.val (.nilFunc)] := zero_of inf123
@[go_sem] theorem ld123 (cs : List AV) (off : Nat) : loadA Try.prog 123 cs off = cs[off]? := load_one Try.underlying123 rfl inf123 cs off
attribute [go_sem] Try.underlying123
@[go_sem] theorem sz124 : sizeA Try.prog 124 = some 1 := size_of inf124
@[go_sem] theorem zr124 : zeroA Try.prog 124 = some [.val (.nilFunc)] := zero_of inf124
@[go_sem] theorem ld124 (cs : List AV) (off : Nat) : loadA Try.prog 124 cs off = cs[off]? := load_one Try.underlying124 rfl inf124 cs off
attribute [go_sem] Try.underlying124
@[go_sem] theorem sz125 : sizeA Try.prog 125 = some 1 := size_of inf125
@[go_sem] theorem zr125 : zeroA Try.prog 125 = some [.val (.nilFunc)] := zero_of inf125
@[go_sem] theorem ld125 (cs : List AV) (off : Nat) : loadA Try.prog 125 cs off = cs[off]? := load_one Try.underlying125 rfl inf125 cs off
attribute [go_sem] Try.underlying125
@[go_sem] theorem sz126 : sizeA Try.prog 126 = some 1 := size_of inf126
@[go_sem] theorem zr126 : zeroA Try.prog 126 = some [.val (.nilFunc)] := zero_of inf126
@[go_sem] theorem ld126 (cs : List AV) (off : Nat) : loadA Try.prog 126 cs off = cs[off]? := load_one Try.underlying126 rfl inf126 cs off
attribute [go_sem] Try.underlying126
@[go_sem] theorem sz127 : sizeA Try.prog 127 = some 1 := size_of inf127
@[go_sem] theorem zr127 : zeroA Try.prog 127 = some [.val (.nilFunc)] := zero_of inf127
@[go_sem] theorem ld127 (cs : List AV) (off : Nat) : loadA Try.prog 127 cs off = cs[off]? := load_one Try.underlying127 rfl inf127 cs off
attribute [go_sem] Try.underlying127
@[go_sem] theorem sz128 : sizeA Try.prog 128 = some 1 := size_of inf128
@[go_sem] theorem zr128 : zeroA Try.prog 128 = some [.val (.nilFunc)] := zero_of inf128
@[go_sem] theorem ld128 (cs : List AV) (off : Nat) : loadA Try.prog 128 cs off = cs[off]? := load_one Try.underlying128 rfl inf128 cs off
attribute [go_sem] Try.underlying128
@[go_sem] theorem sz129 : sizeA Try.prog 129 = some 1 := size_of inf129
@[go_sem] theorem zr129 : zeroA Try.prog 129 = some [.val (.nilFunc)] := zero_of inf129
@[go_sem] theorem ld129 (cs : List AV) (off : Nat) : loadA Try.prog 129 cs off = cs[off]? := load_one Try.underlying129 rfl inf129 cs off
attribute [go_sem] Try.underlying129
@[go_sem] theorem sz130 : sizeA Try.prog 130 = some 1 := size_of inf130
@[go_sem] theorem zr130 : zeroA Try.prog 130 = some [.val (.nilFunc)] := zero_of inf130
@[go_sem] theorem ld130 (cs : List AV) (off : Nat) : loadA Try.prog 130 cs off = cs[off]? := load_one Try.underlying130 rfl inf130 cs off
attribute [go_sem] Try.underlying130
@[go_sem] theorem sz131 : sizeA Try.prog 131 = some 1 := size_of inf131
@[go_sem] theorem zr131 : zeroA Try.prog 131 = some [.val (.nilFunc)] := zero_of inf131
@[go_sem] theorem ld131 (cs : List AV) (off : Nat) : loadA Try.prog 131 cs off = cs[off]? := load_one Try.underlying131 rfl inf131 cs off
attribute [go_sem] Try.underlying131
@[go_sem] theorem sz132 : sizeA Try.prog 132 = some 1 := size_of inf132
@[go_sem] theorem zr132 : zeroA Try.prog 132 = some [.val (.nilFunc)] := zero_of inf132
@[go_sem] theorem ld132 (cs : List AV) (off : Nat) : loadA Try.prog 132 cs off = cs[off]? := load_one Try.underlying132 rfl inf132 cs off
attribute [go_sem] Try.underlying132
@[go_sem] theorem sz133 : sizeA Try.prog 133 = some 1 := size_of inf133
@[go_sem] theorem zr133 : zeroA Try.prog 133 = some [.val (.nilFunc)] := zero_of inf133
@[go_sem] theorem ld133 (cs : List AV) (off : Nat) : loadA Try.prog 133 cs off = cs[off]? := load_one Try.underlying133 rfl inf133 cs off
attribute [go_sem] Try.underlying133
@[go_sem] theorem sz134 : sizeA Try.prog 134 = some 1 := size_of inf134
@[go_sem] theorem zr134 : zeroA Try.prog 134 = some [.val (.nilFunc)] := zero_of inf134
@[go_sem] theorem ld134 (cs : List AV) (off : Nat) : loadA Try.prog 134 cs off = cs[off]? := load_one Try.underlying134 rfl inf134 cs off
attribute [go_sem] Try.underlying134
@[go_sem] theorem sz136 : sizeA Try.prog 136 = some 1 := size_of inf136
@[go_sem] theorem zr136 : zeroA Try.prog 136 = some [.val (.nilFunc)] := zero_of inf136
@[go_sem] theorem ld136 (cs : List AV) (off : Nat) : loadA Try.prog 136 cs off = cs[off]? := load_one Try.underlying136 rfl inf136 cs off
attribute [go_sem] Try.underlying136
@[go_sem] theorem sz137 : sizeA Try.prog 137 = some 1 := size_of inf137
@[go_sem] theorem zr137 : zeroA Try.prog 137 = some [.val (.nilFunc)] := zero_of inf137
@[go_sem] theorem ld137 (cs : List AV) (off : Nat) : loadA Try.prog 137 cs off = cs[off]? := load_one Try.underlying137 rfl inf137 cs off
attribute [go_sem] Try.underlying137
@[go_sem] theorem sz138 : sizeA Try.prog 138 = some 1 := size_of inf138
@[go_sem] theorem zr138 : zeroA Try.prog 138 = some [.val (.nilFunc)] := zero_of inf138
@[go_sem] theorem ld138 (cs : List AV) (off : Nat) : loadA Try.prog 138 cs off = cs[off]? := load_one Try.underlying138 rfl inf138 cs off
attribute [go_sem] Try.underlying138
@[go_sem] theorem sz139 : sizeA Try.prog 139 = some 1 := size_of inf139
@[go_sem] theorem zr139 : zeroA Try.prog 139 = some [.val (.nilFunc)] := zero_of inf139
@[go_sem] theorem ld139 (cs : List AV) (off : Nat) : loadA Try.prog 139 cs off = cs[off]? := load_one Try.underlying139 rfl inf139 cs off
attribute [go_sem] Try.underlying139
@[go_sem] theorem sz140 : sizeA Try.prog 140 = some 1 := size_of inf140
@[go_sem] theorem zr140 : zeroA Try.prog 140 = some [.val (.nilFunc)] := zero_of inf140
@[go_sem] theorem ld140 (cs : List AV) (off : Nat) : loadA Try.prog 140 cs off = cs[off]? := load_one Try.underlying140 rfl inf140 cs off
attribute [go_sem] Try.underlying140
@[go_sem] theorem sz141 : sizeA Try.prog 141 = some 1 := size_of inf141
@[go_sem] theorem zr141 : zeroA Try.prog 141 = some [.val (.slice none 0 0)] := zero_of inf141
@[go_sem] theorem ld141 (cs : List AV) (off : Nat) : loadA Try.prog 141 cs off = cs[off]? := load_one Try.underlying141 rfl inf141 cs off
attribute [go_sem] Try.underlying141
@[go_sem] theorem sz142 : sizeA Try.prog 142 = some 1 := size_of inf142
@[go_sem] theorem zr142 : zeroA Try.prog 142 = some [.val (.nilFunc)] := zero_of inf142
@[go_sem] theorem ld142 (cs : List AV) (off : Nat) : loadA Try.prog 142 cs off = cs[off]? := load_one Try.underlying142 rfl inf142 cs off
attribute [go_sem] Try.underlying142
@[go_sem] theorem sz143 : sizeA Try.prog 143 = some 1 := size_of inf143
@[go_sem] theorem zr143 : zeroA Try.prog 143 = some [.val (.nilFunc)] := zero_of inf143
@[go_sem] theorem ld143 (cs : List AV) (off : Nat) : loadA Try.prog 143 cs off = cs[off]? := load_one Try.underlying143 rfl inf143 cs off
attribute [go_sem] Try.underlying143
@[go_sem] theorem sz144 : sizeA Try.prog 144 = some 3 := size_of inf144
@[go_sem] theorem zr144 : zeroA Try.prog 144 = some [.val (.int .u32 0), .val (.int .i64 0), .val (.int .i64 0)] := zero_of inf144
@[go_sem] theorem ld144 (cs : List AV) (off : Nat) : loadA Try.prog 144 cs off = if off + 3 ≤ cs.length then some (.agg ((cs.drop off).take 3)) else none := load_agg Try.underlying144 rfl inf144 cs off
@[go_sem] theorem sz145 : sizeA Try.prog 145 = some 3 := size_of inf145
@[go_sem] theorem zr145 : zeroA Try.prog 145 = some [.val (.int .u32 0), .val (.int .i64 0), .val (.int .i64 0)] := zero_of inf145
@[go_sem] theorem ld145 (cs : List AV) (off : Nat) : loadA Try.prog 145 cs off = if off + 3 ≤ cs.length then some (.agg ((cs.drop off).take 3)) else none := load_agg Try.underlying145 rfl inf145 cs off
@[go_sem] theorem sz146 : sizeA Try.prog 146 = some 1 := size_of inf146
@[go_sem] theorem zr146 : zeroA Try.prog 146 = some [.val (.nilFunc)] := zero_of inf146
@[go_sem] theorem ld146 (cs : List AV) (off : Nat) : loadA Try.prog 146 cs off = cs[off]? := load_one Try.underlying146 rfl inf146 cs off
attribute [go_sem] Try.underlying146
@[go_sem] theorem sz147 : sizeA Try.prog 147 = some 1 := size_of inf147
@[go_sem] theorem zr147 : zeroA Try.prog 147 = some [.val (.nilFunc)] := zero_of inf147
@[go_sem] theorem ld147 (cs : List AV) (off : Nat) : loadA Try.prog 147 cs off = cs[off]? := load_one Try.underlying147 rfl inf147 cs off
attribute [go_sem] Try.underlying147
@[go_sem] theorem sz148 : sizeA Try.prog 148 = some 1 := size_of inf148
@[go_sem] theorem zr148 : zeroA Try.prog 148 = some [.val (.nilFunc)] := zero_of inf148
@[go_sem] theorem ld148 (cs : List AV) (off : Nat) : loadA Try.prog 148 cs off = cs[off]? := load_one Try.underlying148 rfl inf148 cs off
attribute [go_sem] Try.underlying148
@[go_sem] theorem sz149 : sizeA Try.prog 149 = some 1 := size_of inf149
@[go_sem] theorem zr149 : zeroA Try.prog 149 = some [.val (.nilFunc)] := zero_of inf149
@[go_sem] theorem ld149 (cs : List AV) (off : Nat) : loadA Try.prog 149 cs off = cs[off]? := load_one Try.underlying149 rfl inf149 cs off
attribute [go_sem] Try.underlying149
@[go_sem] theorem sz150 : sizeA Try.prog 150 = some 1 := size_of inf150
@[go_sem] theorem zr150 : zeroA Try.prog 150 = some [.val (.nilFunc)] := zero_of inf150
@[go_sem] theorem ld150 (cs : List AV) (off : Nat) : loadA Try.prog 150 cs off = cs[off]? := load_one Try.underlying150 rfl inf150 cs off
attribute [go_sem] Try.underlying150
@[go_sem] theorem sz151 : sizeA Try.prog 151 = some 1 := size_of inf151
@[go_sem] theorem zr151 : zeroA Try.prog 151 = some [.val (.nilFunc)] := zero_of inf151
@[go_sem] theorem ld151 (cs : List AV) (off : Nat) : loadA Try.prog 151 cs off = cs[off]? := load_one Try.underlying151 rfl inf151 cs off
attribute [go_sem] Try.underlying151
@[go_sem] theorem sz152 : sizeA Try.prog 152 = some 3 := size_of inf152
@[go_sem] theorem zr152 : zeroA Try.prog 152 = some [.val (.slice none 0 0), .val (.int .i64 0), .val (.int .i64 0)] := zero_of inf152
@[go_sem] theorem ld152 (cs : List AV) (off : Nat) : loadA Try.prog 152 cs off = if off + 3 ≤ cs.length then some (.agg ((cs.drop off).take 3)) else none := load_agg Try.underlying152 rfl inf152 cs off
@[go_sem] theorem sz153 : sizeA Try.prog 153 = some 3 := size_of inf153
@[go_sem] theorem zr153 : zeroA Try.prog 153 = some [.val (.slice none 0 0), .val (.int .i64 0), .val (.int .i64 0)] := zero_of inf153
@[go_sem] theorem ld153 (cs : List AV) (off : Nat) : loadA Try.prog 153 cs off = if off + 3 ≤ cs.length then some (.agg ((cs.drop off).take 3)) else none := load_agg Try.underlying153 rfl inf153 cs off
@[go_sem] theorem sz154 : sizeA Try.prog 154 = some 1 := size_of inf154
@[go_sem] theorem zr154 : zeroA Try.prog 154 = some [.val (.nilFunc)] := zero_of inf154
@[go_sem] theorem ld154 (cs : List AV) (off : Nat) : loadA Try.prog 154 cs off = cs[off]? := load_one Try.underlying154 rfl inf154 cs off
attribute [go_sem] Try.underlying154
@[go_sem] theorem sz155 : sizeA Try.prog 155 = some 2 := size_of inf155
@[go_sem] theorem zr155 : zeroA Try.prog 155 = some [.val (.int .u8 0), .val (.int .u8 0)] := zero_of inf155
@[go_sem] theorem ld155 (cs : List AV) (off : Nat) : loadA Try.prog 155 cs off = if off + 2 ≤ cs.length then some (.agg ((cs.drop off).take 2)) else none := load_agg Try.underlying155 rfl inf155 cs off
@[go_sem] theorem sz156 : sizeA Try.prog 156 = some 1 := size_of inf156
@[go_sem] theorem zr156 : zeroA Try.prog 156 = some [.val (.nilFunc)] := zero_of inf156
@[go_sem] theorem ld156 (cs : List AV) (off : Nat) : loadA Try.prog 156 cs off = cs[off]? := load_one Try.underlying156 rfl inf156 cs off
attribute [go_sem] Try.underlying156
@[go_sem] theorem sz157 : sizeA Try.prog 157 = some 1 := size_of inf157
@[go_sem] theorem zr157 : zeroA Try.prog 157 = some [.val (.nilFunc)] := zero_of inf157
@[go_sem] theorem ld157 (cs : List AV) (off : Nat) : loadA Try.prog 157 cs off = cs[off]? := load_one Try.underlying157 rfl inf157 cs off
attribute [go_sem] Try.underlying157
@[go_sem] theorem sz158 : sizeA Try.prog 158 = some 1 := size_of inf158
@[go_sem] theorem zr158 : zeroA Try.prog 158 = some [.val (.nilFunc)] := zero_of inf158
@[go_sem] theorem ld158 (cs : List AV) (off : Nat) : loadA Try.prog 158 cs off = cs[off]? := load_one Try.underlying158 rfl inf158 cs off
attribute [go_sem] Try.underlying158
@[go_sem] theorem sz159 : sizeA Try.prog 159 = some 1 := size_of inf159
@[go_sem] theorem zr159 : zeroA Try.prog 159 = some [.val (.slice none 0 0)] := zero_of inf159
@[go_sem] theorem ld159 (cs : List AV) (off : Nat) : loadA Try.prog 159 cs off = cs[off]? := load_one Try.underlying159 rfl inf159 cs off
attribute [go_sem] Try.underlying159
@[go_sem] theorem sz160 : sizeA Try.prog 160 = some 1 := size_of inf160
@[go_sem] theorem zr160 : zeroA Try.prog 160 = some [.val (.nilFunc)] := zero_of inf160
@[go_sem] theorem ld160 (cs : List AV) (off : Nat) : loadA Try.prog 160 cs off = cs[off]? := load_one Try.underlying160 rfl inf160 cs off
attribute [go_sem] Try.underlying160
@[go_sem] theorem sz161 : sizeA Try.prog 161 = some 1 := size_of inf161
@[go_sem] theorem zr161 : zeroA Try.prog 161 = some [.val (.nilFunc)] := zero_of inf161
@[go_sem] theorem ld161 (cs : List AV) (off : Nat) : loadA Try.prog 161 cs off = cs[off]? := load_one Try.underlying161 rfl inf161 cs off
attribute [go_sem] Try.underlying161
@[go_sem] theorem sz162 : sizeA Try.prog 162 = some 1 := size_of inf162
@[go_sem] theorem zr162 : zeroA Try.prog 162 = some [.val (.nilFunc)] := zero_of inf162
@[go_sem] theorem ld162 (cs : List AV) (off : Nat) : loadA Try.prog 162 cs off = cs[off]? := load_one Try.underlying162 rfl inf162 cs off
attribute [go_sem] Try.underlying162
@[go_sem] theorem sz163 : sizeA Try.prog 163 = some 1 := size_of inf163
@[go_sem] theorem zr163 : zeroA Try.prog 163 = some [.val (.nilFunc)] := zero_of inf163
@[go_sem] theorem ld163 (cs : List AV) (off : Nat) : loadA Try.prog 163 cs off = cs[off]? := load_one Try.underlying163 rfl inf163 cs off
attribute [go_sem] Try.underlying163
@[go_sem] theorem sz164 : sizeA Try.prog 164 = some 1 := size_of inf164
@[go_sem] theorem zr164 : zeroA Try.prog 164 = some [.val (.nilFunc)] := zero_of inf164
@[go_sem] theorem ld164 (cs : List AV) (off : Nat) : loadA Try.prog 164 cs off = cs[off]? := load_one Try.underlying164 rfl inf164 cs off
attribute [go_sem] Try.underlying164
@[go_sem] theorem sz165 : sizeA Try.prog 165 = some 1 := size_of inf165
@[go_sem] theorem zr165 : zeroA Try.prog 165 = some [.val (.nilFunc)] := zero_of inf165
@[go_sem] theorem ld165 (cs : List AV) (off : Nat) : loadA Try.prog 165 cs off = cs[off]? := load_one Try.underlying165 rfl inf165 cs off
attribute [go_sem] Try.underlying165
@[go_sem] theorem sz166 : sizeA Try.prog 166 = some 1 := size_of inf166
@[go_sem] theorem zr166 : zeroA Try.prog 166 = some [.val (.nilFunc)] := zero_of inf166
@[go_sem] theorem ld166 (cs : List AV) (off : Nat) : loadA Try.prog 166 cs off = cs[off]? := load_one Try.underlying166 rfl inf166 cs off
attribute [go_sem] Try.underlying166
@[go_sem] theorem sz167 : sizeA Try.prog 167 = some 1 := size_of inf167
@[go_sem] theorem zr167 : zeroA Try.prog 167 = some [.val (.nilFunc)] := zero_of inf167
@[go_sem] theorem ld167 (cs : List AV) (off : Nat) : loadA Try.prog 167 cs off = cs[off]? := load_one Try.underlying167 rfl inf167 cs off
attribute [go_sem] Try.underlying167
@[go_sem] theorem sz168 : sizeA Try.prog 168 = some 1 := size_of inf168
@[go_sem] theorem zr168 : zeroA Try.prog 168 = some [.val (.nilFunc)] := zero_of inf168
@[go_sem] theorem ld168 (cs : List AV) (off : Nat) : loadA Try.prog 168 cs off = cs[off]? := load_one Try.underlying168 rfl inf168 cs off
attribute [go_sem] Try.underlying168
@[go_sem] theorem sz169 : sizeA Try.prog 169 = some 1 := size_of inf169
@[go_sem] theorem zr169 : zeroA Try.prog 169 = some [.val (.nilFunc)] := zero_of inf169
@[go_sem] theorem ld169 (cs : List AV) (off : Nat) : loadA Try.prog 169 cs off = cs[off]? := load_one Try.underlying169 rfl inf169 cs off
attribute [go_sem] Try.underlying169
@[go_sem] theorem sz170 : sizeA Try.prog 170 = some 1 := size_of inf170
@[go_sem] theorem zr170 : zeroA Try.prog 170 = some [.val (.nilFunc)] := zero_of inf170
@[go_sem] theorem ld170 (cs : List AV) (off : Nat) : loadA Try.prog 170 cs off = cs[off]? := load_one Try.underlying170 rfl inf170 cs off
attribute [go_sem] Try.underlying170
@[go_sem] theorem sz171 : sizeA Try.prog 171 = some 1 := size_of inf171
@[go_sem] theorem zr171 : zeroA Try.prog 171 = some [.val (.nilFunc)] := zero_of inf171
@[go_sem] theorem ld171 (cs : List AV) (off : Nat) : loadA Try.prog 171 cs off = cs[off]? := load_one Try.underlying171 rfl inf171 cs off
attribute [go_sem] Try.underlying171
@[go_sem] theorem sz172 : sizeA Try.prog 172 = some 1 := size_of inf172
@[go_sem] theorem zr172 : zeroA Try.prog 172 = some [.val (.nilFunc)] := zero_of inf172
@[go_sem] theorem ld172 (cs : List AV) (off : Nat) : loadA Try.prog 172 cs off = cs[off]? := load_one Try.underlying172 rfl inf172 cs off
attribute [go_sem] Try.underlying172
@[go_sem] theorem sz173 : sizeA Try.prog 173 = some 1 := size_of inf173
@[go_sem] theorem zr173 : zeroA Try.prog 173 = some [.val (.nilFunc)] := zero_of inf173
@[go_sem] theorem ld173 (cs : List AV) (off : Nat) : loadA Try.prog 173 cs off = cs[off]? := load_one Try.underlying173 rfl inf173 cs off
attribute [go_sem] Try.underlying173
@[go_sem] theorem sz174 : sizeA Try.prog 174 = some 1 := size_of inf174
@[go_sem] theorem zr174 : zeroA Try.prog 174 = some [.val (.int .u64 0)] := zero_of inf174
@[go_sem] theorem ld174 (cs : List AV) (off : Nat) : loadA Try.prog 174 cs off = cs[off]? := load_one Try.underlying174 rfl inf174 cs off
attribute [go_sem] Try.underlying174
@[go_sem] theorem sz175 : sizeA Try.prog 175 = some 1 := size_of inf175
@[go_sem] theorem zr175 : zeroA Try.prog 175 = some [.val (.nilFunc)] := zero_of inf175
@[go_sem] theorem ld175 (cs : List AV) (off : Nat) : loadA Try.prog 175 cs off = cs[off]? := load_one Try.underlying175 rfl inf175 cs off
attribute [go_sem] Try.underlying175
@[go_sem] theorem sz176 : sizeA Try.prog 176 = some 1 := size_of inf176
@[go_sem] theorem zr176 : zeroA Try.prog 176 = some [.val (.nilFunc)] := zero_of inf176
@[go_sem] theorem ld176 (cs : List AV) (off : Nat) : loadA Try.prog 176 cs off = cs[off]? := load_one Try.underlying176 rfl inf176 cs off
attribute [go_sem] Try.underlying176
@[go_sem] theorem sz177 : sizeA Try.prog 177 = some 1 := size_of inf177
@[go_sem] theorem zr177 : zeroA Try.prog 177 = some [.val (.nilFunc)] := zero_of inf177
@[go_sem] theorem ld177 (cs : List AV) (off : Nat) : loadA Try.prog 177 cs off = cs[off]? := load_one Try.underlying177 rfl inf177 cs off
attribute [go_sem] Try.underlying177
@[go_sem] theorem sz178 : sizeA Try.prog 178 = some 1 := size_of inf178
@[go_sem] theorem zr178 : zeroA Try.prog 178 = some [.val (.nilFunc)] := zero_of inf178
@[go_sem] theorem ld178 (cs : List AV) (off : Nat) : loadA Try.prog 178 cs off = cs[off]? := load_one Try.underlying178 rfl inf178 cs off
attribute [go_sem] Try.underlying178
@[go_sem] theorem sz179 : sizeA Try.prog 179 = some 1 := size_of inf179
@[go_sem] theorem zr179 : zeroA Try.prog 179 = some [.val (.nilFunc)] := zero_of inf179
@[go_sem] theorem ld179 (cs : List AV) (off : Nat) : loadA Try.prog 179 cs off = cs[off]? := load_one Try.underlying179 rfl inf179 cs off
attribute [go_sem] Try.underlying179
@[go_sem] theorem sz180 : sizeA Try.prog 180 = some 1 := size_of inf180
@[go_sem] theorem zr180 : zeroA Try.prog 180 = some [.val (.nilFunc)] := zero_of inf180
@[go_sem] theorem ld180 (cs : List AV) (off : Nat) : loadA Try.prog 180 cs off = cs[off]? := load_one Try.underlying180 rfl inf180 cs off
attribute [go_sem] Try.underlying180
@[go_sem] theorem sz181 : sizeA Try.prog 181 = some 1 := size_of inf181
@[go_sem] theorem zr181 : zeroA Try.prog 181 = some [.val (.nilFunc)] := zero_of inf181
@[go_sem] theorem ld181 (cs : List AV) (off : Nat) : loadA Try.prog 181 cs off = cs[off]? := load_one Try.underlying181 rfl inf181 cs off
attribute [go_sem] Try.underlying181
@[go_sem] theorem sz182 : sizeA Try.prog 182 = some 1 := size_of inf182
@[go_sem] theorem zr182 : zeroA Try.prog 182 = some [.val (.int .i64 0)] := zero_of inf182
@[go_sem] theorem ld182 (cs : List AV) (off : Nat) : loadA Try.prog 182 cs off = cs[off]? := load_one Try.underlying182 rfl inf182 cs off
attribute [go_sem] Try.underlying182
@[go_sem] theorem sz184 : sizeA Try.prog 184 = some 1 := size_of inf184
@[go_sem] theorem zr184 : zeroA Try.prog 184 = some [.val (.nilFunc)] := zero_of inf184
@[go_sem] theorem ld184 (cs : List AV) (off : Nat) : loadA Try.prog 184 cs off = cs[off]? := load_one Try.underlying184 rfl inf184 cs off
attribute [go_sem] Try.underlying184
@[go_sem] theorem sz185 : sizeA Try.prog 185 = some 1 := size_of inf185
@[go_sem] theorem zr185 : zeroA Try.prog 185 = some [.val (.nilFunc)] := zero_of inf185
@[go_sem] theorem ld185 (cs : List AV) (off : Nat) : loadA Try.prog 185 cs off = cs[off]? := load_one Try.underlying185 rfl inf185 cs off
attribute [go_sem] Try.underlying185
@[go_sem] theorem sz186 : sizeA Try.prog 186 = some 1 := size_of inf186
@[go_sem] theorem zr186 : zeroA Try.prog 186 = some [.val (.nilFunc)] := zero_of inf186
@[go_sem] theorem ld186 (cs : List AV) (off : Nat) : loadA Try.prog 186 cs off = cs[off]? := load_one Try.underlying186 rfl inf186 cs off
attribute [go_sem] Try.underlying186
@[go_sem] theorem sz188 : sizeA Try.prog 188 = some 1 := size_of inf188
@[go_sem] theorem zr188 : zeroA Try.prog 188 = some [.val (.nilFunc)] := zero_of inf188
@[go_sem] theorem ld188 (cs : List AV) (off : Nat) : loadA Try.prog 188 cs off = cs[off]? := load_one Try.underlying188 rfl inf188 cs off
attribute [go_sem] Try.underlying188
@[go_sem] theorem sz189 : sizeA Try.prog 189 = some 1 := size_of inf189
@[go_sem] theorem zr189 : zeroA Try.prog 189 = some [.val (.nilFunc)] := zero_of inf189
@[go_sem] theorem ld189 (cs : List AV) (off : Nat) : loadA Try.prog 189 cs off = cs[off]? := load_one Try.underlying189 rfl inf189 cs off
attribute [go_sem] Try.underlying189
@[go_sem] theorem sz190 : sizeA Try.prog 190 = some 1 := size_of inf190
@[go_sem] theorem zr190 : zeroA Try.prog 190 = some [.val (.nilFunc)] := zero_of inf190
@[go_sem] theorem ld190 (cs : List AV) (off : Nat) : loadA Try.prog 190 cs off = cs[off]? := load_one Try.underlying190 rfl inf190 cs off
attribute [go_sem] Try.underlying190
@[go_sem] theorem sz191 : sizeA Try.prog 191 = some 1 := size_of inf191
@[go_sem] theorem zr191 : zeroA Try.prog 191 = some [.val (.int .u64 0)] := zero_of inf191
@[go_sem] theorem ld191 (cs : List AV) (off : Nat) : loadA Try.prog 191 cs off = cs[off]? := load_one Try.underlying191 rfl inf191 cs off
attribute [go_sem] Try.underlying191
@[go_sem] theorem sz192 : sizeA Try.prog 192 = some 1 := size_of inf192
@[go_sem] theorem zr192 : zeroA Try.prog 192 = some [.val (.nilFunc)] := zero_of inf192
@[go_sem] theorem ld192 (cs : List AV) (off : Nat) : loadA Try.prog 192 cs off = cs[off]? := load_one Try.underlying192 rfl inf192 cs off
attribute [go_sem] Try.underlying192
@[go_sem] theorem sz193 : sizeA Try.prog 193 = some 1 := size_of inf193
@[go_sem] theorem zr193 : zeroA Try.prog 193 = some [.val (.nilFunc)] := zero_of inf193
@[go_sem] theorem ld193 (cs : List AV) (off : Nat) : loadA Try.prog 193 cs off = cs[off]? := load_one Try.underlying193 rfl inf193 cs off
attribute [go_sem] Try.underlying193
@[go_sem] theorem sz194 : sizeA Try.prog 194 = some 1 := size_of inf194
@[go_sem] theorem zr194 : zeroA Try.prog 194 = some [.val (.nilFunc)] := zero_of inf194
@[go_sem] theorem ld194 (cs : List AV) (off : Nat) : loadA Try.prog 194 cs off = cs[off]? := load_one Try.underlying194 rfl inf194 cs off
attribute [go_sem] Try.underlying194
@[go_sem] theorem sz195 : sizeA Try.prog 195 = some 1 := size_of inf195
@[go_sem] theorem zr195 : zeroA Try.prog 195 = some [.val (.nilFunc)] := zero_of inf195
@[go_sem] theorem ld195 (cs : List AV) (off : Nat) : loadA Try.prog 195 cs off = cs[off]? := load_one Try.underlying195 rfl inf195 cs off
attribute [go_sem] Try.underlying195
@[go_sem] theorem sz196 : sizeA Try.prog 196 = some 1 := size_of inf196
@[go_sem] theorem zr196 : zeroA Try.prog 196 = some [.val (.nilFunc)] := zero_of inf196
@[go_sem] theorem ld196 (cs : List AV) (off : Nat) : loadA Try.prog 196 cs off = cs[off]? := load_one Try.underlying196 rfl inf196 cs off
attribute [go_sem] Try.underlying196
@[go_sem] theorem sz197 : sizeA Try.prog 197 = some 1 := size_of inf197
@[go_sem] theorem zr197 : zeroA Try.prog 197 = some [.val (.nilFunc)] := zero_of inf197
@[go_sem] theorem ld197 (cs : List AV) (off : Nat) : loadA Try.prog 197 cs off = cs[off]? := load_one Try.underlying197 rfl inf197 cs off
attribute [go_sem] Try.underlying197
@[go_sem] theorem sz198 : sizeA Try.prog 198 = some 1 := size_of inf198
@[go_sem] theorem zr198 : zeroA Try.prog 198 = some [.val (.nilFunc)] := zero_of inf198
@[go_sem] theorem ld198 (cs : List AV) (off : Nat) : loadA Try.prog 198 cs off = cs[off]? := load_one Try.underlying198 rfl inf198 cs off
attribute [go_sem] Try.underlying198
@[go_sem] theorem sz199 : sizeA Try.prog 199 = some 1 := size_of inf199
@[go_sem] theorem zr199 : zeroA Try.prog 199 = some [.val (.int .u64 0)] := zero_of inf199
@[go_sem] theorem ld199 (cs : List AV) (off : Nat) : loadA Try.prog 199 cs off = cs[off]? := load_one Try.underlying199 rfl inf199 cs off
attribute [go_sem] Try.underlying199
@[go_sem] theorem sz200 : sizeA Try.prog 200 = some 1 := size_of inf200
@[go_sem] theorem zr200 : zeroA Try.prog 200 = some [.val (.nilFunc)] := zero_of inf200
@[go_sem] theorem ld200 (cs : List AV) (off : Nat) : loadA Try.prog 200 cs off = cs[off]? := load_one Try.underlying200 rfl inf200 cs off
attribute [go_sem] Try.underlying200
@[go_sem] theorem sz201 : sizeA Try.prog 201 = some 1 := size_of inf201
@[go_sem] theorem zr201 : zeroA Try.prog 201 = some [.val (.nilFunc)] := zero_of inf201
@[go_sem] theorem ld201 (cs : List AV) (off : Nat) : loadA Try.prog 201 cs off = cs[off]? := load_one Try.underlying201 rfl inf201 cs off
attribute [go_sem] Try.underlying201
@[go_sem] theorem sz202 : sizeA Try.prog 202 = some 1 := size_of inf202
@[go_sem] theorem zr202 : zeroA Try.prog 202 = some [.val (.nilFunc)] := zero_of inf202
@[go_sem] theorem ld202 (cs : List AV) (off : Nat) : loadA Try.prog 202 cs off = cs[off]? := load_one Try.underlying202 rfl inf202 cs off
attribute [go_sem] Try.underlying202
@[go_sem] theorem sz203 : sizeA Try.prog 203 = some 1 := size_of inf203
@[go_sem] theorem zr203 : zeroA Try.prog 203 = some [.val (.pointer none)] := zero_of inf203
@[go_sem] theorem ld203 (cs : List AV) (off : Nat) : loadA Try.prog 203 cs off = cs[off]? := load_one Try.underlying203 rfl inf203 cs off
attribute [go_sem] Try.underlying203
@[go_sem] theorem sz204 : sizeA Try.prog 204 = some 1 := size_of inf204
@[go_sem] theorem zr204 : zeroA Try.prog 204 = some [.val (.nilFunc)] := zero_of inf204
@[go_sem] theorem ld204 (cs : List AV) (off : Nat) : loadA Try.prog 204 cs off = cs[off]? := load_one Try.underlying204 rfl inf204 cs off
attribute [go_sem] Try.underlying204
@[go_sem] theorem sz205 : sizeA Try.prog 205 = some 1 := size_of inf205
@[go_sem] theorem zr205 : zeroA Try.prog 205 = some [.val (.nilFunc)] := zero_of inf205
@[go_sem] theorem ld205 (cs : List AV) (off : Nat) : loadA Try.prog 205 cs off = cs[off]? := load_one Try.underlying205 rfl inf205 cs off
attribute [go_sem] Try.underlying205
@[go_sem] theorem sz206 : sizeA Try.prog 206 = some 1 := size_of inf206
@[go_sem] theorem zr206 : zeroA Try.prog 206 = some [.val (.nilFunc)] := zero_of inf206
@[go_sem] theorem ld206 (cs : List AV) (off : Nat) : loadA Try.prog 206 cs off = cs[off]? := load_one Try.underlying206 rfl inf206 cs off
attribute [go_sem] Try.underlying206
@[go_sem] theorem sz207 : sizeA Try.prog 207 = some 1 := size_of inf207
@[go_sem] theorem zr207 : zeroA Try.prog 207 = some [.val (.pointer none)] := zero_of inf207
@[go_sem] theorem ld207 (cs : List AV) (off : Nat) : loadA Try.prog 207 cs off = cs[off]? := load_one Try.underlying207 rfl inf207 cs off
attribute [go_sem] Try.underlying207
@[go_sem] theorem sz209 : sizeA Try.prog 209 = some 1 := size_of inf209
@[go_sem] theorem zr209 : zeroA Try.prog 209 = some [.val (.nilFunc)] := zero_of inf209
@[go_sem] theorem ld209 (cs : List AV) (off : Nat) : loadA Try.prog 209 cs off = cs[off]? := load_one Try.underlying209 rfl inf209 cs off
attribute [go_sem] Try.underlying209
@[go_sem] theorem sz210 : sizeA Try.prog 210 = some 1 := size_of inf210
@[go_sem] theorem zr210 : zeroA Try.prog 210 = some [.val (.nilFunc)] := zero_of inf210
@[go_sem] theorem ld210 (cs : List AV) (off : Nat) : loadA Try.prog 210 cs off = cs[off]? := load_one Try.underlying210 rfl inf210 cs off
attribute [go_sem] Try.underlying210
@[go_sem] theorem sz211 : sizeA Try.prog 211 = some 1 := size_of inf211
@[go_sem] theorem zr211 : zeroA Try.prog 211 = some [.val (.nilFunc)] := zero_of inf211
@[go_sem] theorem ld211 (cs : List AV) (off : Nat) : loadA Try.prog 211 cs off = cs[off]? := load_one Try.underlying211 rfl inf211 cs off
attribute [go_sem] Try.underlying211
@[go_sem] theorem sz212 : sizeA Try.prog 212 = some 4 := size_of inf212
@[go_sem] theorem zr212 : zeroA Try.prog 212 = some [.val (.pointer none), .val (.pointer none), .val (.pointer none), .val (.string ⟨#[]⟩)] := zero_of inf212
@[go_sem] theorem ld212 (cs : List AV) (off : Nat) : loadA Try.prog 212 cs off = if off + 4 ≤ cs.length then some (.agg ((cs.drop off).take 4)) else none := load_agg Try.underlying212 rfl inf212 cs off
@[go_sem] theorem sz213 : sizeA Try.prog 213 = some 4 := size_of inf213
@[go_sem] theorem zr213 : zeroA Try.prog 213 = some [.val (.pointer none), .val (.pointer none), .val (.pointer none), .val (.string ⟨#[]⟩)] := zero_of inf213
@[go_sem] theorem ld213 (cs : List AV) (off : Nat) : loadA Try.prog 213 cs off = if off + 4 ≤ cs.length then some (.agg ((cs.drop off).take 4)) else none := load_agg Try.underlying213 rfl inf213 cs off
@[go_sem] theorem sz214 : sizeA Try.prog 214 = some 0 := size_of inf214
@[go_sem] theorem zr214 : zeroA Try.prog 214 = some [] := zero_of inf214
@[go_sem] theorem ld214 (cs : List AV) (off : Nat) : loadA Try.prog 214 cs off = if off + 0 ≤ cs.length then some (.agg ((cs.drop off).take 0)) else none := load_agg Try.underlying214 rfl inf214 cs off
@[go_sem] theorem sz215 : sizeA Try.prog 215 = some 0 := size_of inf215
@[go_sem] theorem zr215 : zeroA Try.prog 215 = some [] := zero_of inf215
@[go_sem] theorem ld215 (cs : List AV) (off : Nat) : loadA Try.prog 215 cs off = if off + 0 ≤ cs.length then some (.agg ((cs.drop off).take 0)) else none := load_agg Try.underlying215 rfl inf215 cs off
@[go_sem] theorem sz216 : sizeA Try.prog 216 = some 0 := size_of inf216
@[go_sem] theorem zr216 : zeroA Try.prog 216 = some [] := zero_of inf216
@[go_sem] theorem ld216 (cs : List AV) (off : Nat) : loadA Try.prog 216 cs off = if off + 0 ≤ cs.length then some (.agg ((cs.drop off).take 0)) else none := load_agg Try.underlying216 rfl inf216 cs off
@[go_sem] theorem sz217 : sizeA Try.prog 217 = some 1 := size_of inf217
@[go_sem] theorem zr217 : zeroA Try.prog 217 = some [.val (.int .u8 0)] := zero_of inf217
@[go_sem] theorem ld217 (cs : List AV) (off : Nat) : loadA Try.prog 217 cs off = cs[off]? := load_one Try.underlying217 rfl inf217 cs off
attribute [go_sem] Try.underlying217
@[go_sem] theorem sz218 : sizeA Try.prog 218 = some 1 := size_of inf218
@[go_sem] theorem zr218 : zeroA Try.prog 218 = some [.val (.int .u8 0)] := zero_of inf218
@[go_sem] theorem ld218 (cs : List AV) (off : Nat) : loadA Try.prog 218 cs off = cs[off]? := load_one Try.underlying218 rfl inf218 cs off
attribute [go_sem] Try.underlying218
@[go_sem] theorem sz219 : sizeA Try.prog 219 = some 1 := size_of inf219
@[go_sem] theorem zr219 : zeroA Try.prog 219 = some [.val (.nilFunc)] := zero_of inf219
@[go_sem] theorem ld219 (cs : List AV) (off : Nat) : loadA Try.prog 219 cs off = cs[off]? := load_one Try.underlying219 rfl inf219 cs off
attribute [go_sem] Try.underlying219
@[go_sem] theorem sz220 : sizeA Try.prog 220 = some 1 := size_of inf220
@[go_sem] theorem zr220 : zeroA Try.prog 220 = some [.val (.pointer none)] := zero_of inf220
@[go_sem] theorem ld220 (cs : List AV) (off : Nat) : loadA Try.prog 220 cs off = cs[off]? := load_one Try.underlying220 rfl inf220 cs off
attribute [go_sem] Try.underlying220
@[go_sem] theorem sz221 : sizeA Try.prog 221 = some 1 := size_of inf221
@[go_sem] theorem zr221 : zeroA Try.prog 221 = some [.val (.int .i32 0)] := zero_of inf221
@[go_sem] theorem ld221 (cs : List AV) (off : Nat) : loadA Try.prog 221 cs off = cs[off]? := load_one Try.underlying221 rfl inf221 cs off
attribute [go_sem] Try.underlying221
@[go_sem] theorem sz222 : sizeA Try.prog 222 = some 1 := size_of inf222
@[go_sem] theorem zr222 : zeroA Try.prog 222 = some [.val (.int .i32 0)] := zero_of inf222
@[go_sem] theorem ld222 (cs : List AV) (off : Nat) : loadA Try.prog 222 cs off = cs[off]? := load_one Try.underlying222 rfl inf222 cs off
attribute [go_sem] Try.underlying222
@[go_sem] theorem sz223 : sizeA Try.prog 223 = some 11 := size_of inf223
@[go_sem] theorem zr223 : zeroA Try.prog 223 = some [.val (.int .u64 0), .val (.int .u64 0), .val (.int .u32 0), .val (.int .u8 0), .val (.int .u8 0), .val (.int .u8 0), .val (.int .u8 0), .val (.nilFunc), .val (.pointer none), .val (.int .i32 0), .val (.int .i32 0)] := zero_of inf223
@[go_sem] theorem ld223 (cs : List AV) (off : Nat) : loadA Try.prog 223 cs off = if off + 11 ≤ cs.length then some (.agg ((cs.drop off).take 11)) else none := load_agg Try.underlying223 rfl inf223 cs off
@[go_sem] theorem sz224 : sizeA Try.prog 224 = some 11 := size_of inf224
@[go_sem] theorem zr224 : zeroA Try.prog 224 = some [.val (.int .u64 0), .val (.int .u64 0), .val (.int .u32 0), .val (.int .u8 0), .val (.int .u8 0), .val (.int .u8 0), .val (.int .u8 0), .val (.nilFunc), .val (.pointer none), .val (.int .i32 0), .val (.int .i32 0)] := zero_of inf224
@[go_sem] theorem ld224 (cs : List AV) (off : Nat) : loadA Try.prog 224 cs off = if off + 11 ≤ cs.length then some (.agg ((cs.drop off).take 11)) else none := load_agg Try.underlying224 rfl inf224 cs off
@[go_sem] theorem sz225 : sizeA Try.prog 225 = some 1 := size_of inf225
@[go_sem] theorem zr225 : zeroA Try.prog 225 = some [.val (.pointer none)] := zero_of inf225
@[go_sem] theorem ld225 (cs : List AV) (off : Nat) : loadA Try.prog 225 cs off = cs[off]? := load_one Try.underlying225 rfl inf225 cs off
attribute [go_sem] Try.underlying225
@[go_sem] theorem fo7_0 : fieldOff Try.prog 7 0 = some 0 := field_off Try.underlying7 rfl sz2 (by decide)
@[go_sem] theorem ft7_0 : fieldTO Try.prog 7 0 = some (2, 0) := field_to Try.underlying7 rfl
@[go_sem] theorem fo7_1 : fieldOff Try.prog 7 1 = some 1 := field_off Try.underlying7 rfl sz3 (by decide)
@[go_sem] theorem ft7_1 : fieldTO Try.prog 7 1 = some (3, 1) := field_to Try.underlying7 rfl
@[go_sem] theorem fo7_2 : fieldOff Try.prog 7 2 = some 2 := field_off Try.underlying7 rfl sz4 (by decide)
@[go_sem] theorem ft7_2 : fieldTO Try.prog 7 2 = some (4, 2) := field_to Try.underlying7 rfl
@[go_sem] theorem fo7_3 : fieldOff Try.prog 7 3 = some 3 := field_off Try.underlying7 rfl sz6 (by decide)
@[go_sem] theorem ft7_3 : fieldTO Try.prog 7 3 = some (6, 3) := field_to Try.underlying7 rfl
@[go_sem] theorem bd7 (ps : List (Nat × AV)) : buildA Try.prog 7 ps = (fillA (fun i => ([(0, 1), (1, 1), (2, 1), (3, 1)] : List (Nat × Nat))[i]?) [.val (.int .i64 0), .val (.int .i64 0), .val (.bool false), .val (.int .u8 0)] ps).map .agg := build_of Try.underlying7 inf7 (by simp only [List.map_cons, List.map_nil, sz2, sz3, sz4, sz6, Option.map_some]) ps
@[go_sem] theorem eq7 (x0 y0 : Int) (x1 y1 : Int) (x2 y2 : Bool) (x3 y3 : Int) : aggEq Try.prog 7 (.agg #[.int .i64 x0, .int .i64 x1, .bool x2, .int .u8 x3]) (.agg #[.int .i64 y0, .int .i64 y1, .bool y2, .int .u8 y3]) = some (x0 == y0 && (x1 == y1 && (x2 == y2 && (x3 == y3 && true)))) := by kernel_rfl
@[go_sem high] theorem be7 {a b : Operand} (x0 y0 : Int) (x1 y1 : Int) (x2 y2 : Bool) (x3 y3 : Int) : binA Try.prog .eql 7 a b (.agg [.val (.int .i64 x0), .val (.int .i64 x1), .val (.bool x2), .val (.int .u8 x3)]) (.agg [.val (.int .i64 y0), .val (.int .i64 y1), .val (.bool y2), .val (.int .u8 y3)]) = some (.val (.bool (x0 == y0 && (x1 == y1 && (x2 == y2 && (x3 == y3 && true)))))) := (bin_agg Try.underlying7 rfl rfl (eq7 ..)).1
@[go_sem high] theorem bq7 {a b : Operand} (x0 y0 : Int) (x1 y1 : Int) (x2 y2 : Bool) (x3 y3 : Int) : binA Try.prog .neq 7 a b (.agg [.val (.int .i64 x0), .val (.int .i64 x1), .val (.bool x2), .val (.int .u8 x3)]) (.agg [.val (.int .i64 y0), .val (.int .i64 y1), .val (.bool y2), .val (.int .u8 y3)]) = some (.val (.bool (!((x0 == y0 && (x1 == y1 && (x2 == y2 && (x3 == y3 && true)))))))) := (bin_agg Try.underlying7 rfl rfl (eq7 ..)).2
@[go_sem] theorem fo8_0 : fieldOff Try.prog 8 0 = some 0 := field_off Try.underlying8 rfl sz2 (by decide)
@[go_sem] theorem ft8_0 : fieldTO Try.prog 8 0 = some (2, 0) := field_to Try.underlying8 rfl
@[go_sem] theorem fo8_1 : fieldOff Try.prog 8 1 = some 1 := field_off Try.underlying8 rfl sz3 (by decide)
@[go_sem] theorem ft8_1 : fieldTO Try.prog 8 1 = some (3, 1) := field_to Try.underlying8 rfl
@[go_sem] theorem fo8_2 : fieldOff Try.prog 8 2 = some 2 := field_off Try.underlying8 rfl sz4 (by decide)
@[go_sem] theorem ft8_2 : fieldTO Try.prog 8 2 = some (4, 2) := field_to Try.underlying8 rfl
@[go_sem] theorem fo8_3 : fieldOff Try.prog 8 3 = some 3 := field_off Try.underlying8 rfl sz6 (by decide)
@[go_sem] theorem ft8_3 : fieldTO Try.prog 8 3 = some (6, 3) := field_to Try.underlying8 rfl
@[go_sem] theorem bd8 (ps : List (Nat × AV)) : buildA Try.prog 8 ps = (fillA (fun i => ([(0, 1), (1, 1), (2, 1), (3, 1)] : List (Nat × Nat))[i]?) [.val (.int .i64 0), .val (.int .i64 0), .val (.bool false), .val (.int .u8 0)] ps).map .agg := build_of Try.underlying8 inf8 (by simp only [List.map_cons, List.map_nil, sz2, sz3, sz4, sz6, Option.map_some]) ps
@[go_sem] theorem eq8 (x0 y0 : Int) (x1 y1 : Int) (x2 y2 : Bool) (x3 y3 : Int) : aggEq Try.prog 8 (.agg #[.int .i64 x0, .int .i64 x1, .bool x2, .int .u8 x3]) (.agg #[.int .i64 y0, .int .i64 y1, .bool y2, .int .u8 y3]) = some (x0 == y0 && (x1 == y1 && (x2 == y2 && (x3 == y3 && true)))) := by kernel_rfl
@[go_sem high] theorem be8 {a b : Operand} (x0 y0 : Int) (x1 y1 : Int) (x2 y2 : Bool) (x3 y3 : Int) : binA Try.prog .eql 8 a b (.agg [.val (.int .i64 x0), .val (.int .i64 x1), .val (.bool x2), .val (.int .u8 x3)]) (.agg [.val (.int .i64 y0), .val (.int .i64 y1), .val (.bool y2), .val (.int .u8 y3)]) = some (.val (.bool (x0 == y0 && (x1 == y1 && (x2 == y2 && (x3 == y3 && true)))))) := (bin_agg Try.underlying8 rfl rfl (eq8 ..)).1
@[go_sem high] theorem bq8 {a b : Operand} (x0 y0 : Int) (x1 y1 : Int) (x2 y2 : Bool) (x3 y3 : Int) : binA Try.prog .neq 8 a b (.agg [.val (.int .i64 x0), .val (.int .i64 x1), .val (.bool x2), .val (.int .u8 x3)]) (.agg [.val (.int .i64 y0), .val (.int .i64 y1), .val (.bool y2), .val (.int .u8 y3)]) = some (.val (.bool (!((x0 == y0 && (x1 == y1 && (x2 == y2 && (x3 == y3 && true)))))))) := (bin_agg Try.underlying8 rfl rfl (eq8 ..)).2
@[go_sem] theorem fo13_0 : fieldOff Try.prog 13 0 = some 0 := field_off Try.underlying13 rfl sz9 (by decide)
@[go_sem] theorem ft13_0 : fieldTO Try.prog 13 0 = some (9, 0) := field_to Try.underlying13 rfl
@[go_sem] theorem fo13_1 : fieldOff Try.prog 13 1 = some 1 := field_off Try.underlying13 rfl sz12 (by decide)
@[go_sem] theorem ft13_1 : fieldTO Try.prog 13 1 = some (12, 1) := field_to Try.underlying13 rfl
@[go_sem] theorem bd13 (ps : List (Nat × AV)) : buildA Try.prog 13 ps = (fillA (fun i => ([(0, 1), (1, 1)] : List (Nat × Nat))[i]?) [.val (.string ⟨#[]⟩), .val (.int .u64 0)] ps).map .agg := build_of Try.underlying13 inf13 (by simp only [List.map_cons, List.map_nil, sz9, sz12, Option.map_some]) ps
@[go_sem] theorem fo14_0 : fieldOff Try.prog 14 0 = some 0 := field_off Try.underlying14 rfl sz9 (by decide)
@[go_sem] theorem ft14_0 : fieldTO Try.prog 14 0 = some (9, 0) := field_to Try.underlying14 rfl
@[go_sem] theorem fo14_1 : fieldOff Try.prog 14 1 = some 1 := field_off Try.underlying14 rfl sz12 (by decide)
@[go_sem] theorem ft14_1 : fieldTO Try.prog 14 1 = some (12, 1) := field_to Try.underlying14 rfl
@[go_sem] theorem bd14 (ps : List (Nat × AV)) : buildA Try.prog 14 ps = (fillA (fun i => ([(0, 1), (1, 1)] : List (Nat × Nat))[i]?) [.val (.string ⟨#[]⟩), .val (.int .u64 0)] ps).map .agg := build_of Try.underlying14 inf14 (by simp only [List.map_cons, List.map_nil, sz9, sz12, Option.map_some]) ps
@[go_sem] theorem fo18_0 : fieldOff Try.prog 18 0 = some 0 := field_off Try.underlying18 rfl sz17 (by decide)
@[go_sem] theorem ft18_0 : fieldTO Try.prog 18 0 = some (17, 0) := field_to Try.underlying18 rfl
@[go_sem] theorem bd18 (ps : List (Nat × AV)) : buildA Try.prog 18 ps = (fillA (fun i => ([(0, 1)] : List (Nat × Nat))[i]?) [.val (.pointer none)] ps).map .agg := build_of Try.underlying18 inf18 (by simp only [List.map_cons, List.map_nil, sz17, Option.map_some]) ps
@[go_sem] theorem fo19_0 : fieldOff Try.prog 19 0 = some 0 := field_off Try.underlying19 rfl sz17 (by decide)
@[go_sem] theorem ft19_0 : fieldTO Try.prog 19 0 = some (17, 0) := field_to Try.underlying19 rfl
@[go_sem] theorem bd19 (ps : List (Nat × AV)) : buildA Try.prog 19 ps = (fillA (fun i => ([(0, 1)] : List (Nat × Nat))[i]?) [.val (.pointer none)] ps).map .agg := build_of Try.underlying19 inf19 (by simp only [List.map_cons, List.map_nil, sz17, Option.map_some]) ps
@[go_sem] theorem fo22_0 : fieldOff Try.prog 22 0 = some 0 := field_off Try.underlying22 rfl sz2 (by decide)
@[go_sem] theorem ft22_0 : fieldTO Try.prog 22 0 = some (2, 0) := field_to Try.underlying22 rfl
@[go_sem] theorem fo22_1 : fieldOff Try.prog 22 1 = some 1 := field_off Try.underlying22 rfl sz3 (by decide)
@[go_sem] theorem ft22_1 : fieldTO Try.prog 22 1 = some (3, 1) := field_to Try.underlying22 rfl
@[go_sem] theorem fo22_2 : fieldOff Try.prog 22 2 = some 2 := field_off Try.underlying22 rfl sz2 (by decide)
@[go_sem] theorem ft22_2 : fieldTO Try.prog 22 2 = some (2, 2) := field_to Try.underlying22 rfl
@[go_sem] theorem fo22_3 : fieldOff Try.prog 22 3 = some 3 := field_off Try.underlying22 rfl sz2 (by decide)
@[go_sem] theorem ft22_3 : fieldTO Try.prog 22 3 = some (2, 3) := field_to Try.underlying22 rfl
@[go_sem] theorem fo22_4 : fieldOff Try.prog 22 4 = some 4 := field_off Try.underlying22 rfl sz2 (by decide)
@[go_sem] theorem ft22_4 : fieldTO Try.prog 22 4 = some (2, 4) := field_to Try.underlying22 rfl
@[go_sem] theorem bd22 (ps : List (Nat × AV)) : buildA Try.prog 22 ps = (fillA (fun i => ([(0, 1), (1, 1), (2, 1), (3, 1), (4, 1)] : List (Nat × Nat))[i]?) [.val (.int .i64 0), .val (.int .i64 0), .val (.int .i64 0), .val (.int .i64 0), .val (.int .i64 0)] ps).map .agg := build_of Try.underlying22 inf22 (by simp only [List.map_cons, List.map_nil, sz2, sz3, Option.map_some]) ps
@[go_sem] theorem eq22 (x0 y0 : Int) (x1 y1 : Int) (x2 y2 : Int) (x3 y3 : Int) (x4 y4 : Int) : aggEq Try.prog 22 (.agg #[.int .i64 x0, .int .i64 x1, .int .i64 x2, .int .i64 x3, .int .i64 x4]) (.agg #[.int .i64 y0, .int .i64 y1, .int .i64 y2, .int .i64 y3, .int .i64 y4]) = some (x0 == y0 && (x1 == y1 && (x2 == y2 && (x3 == y3 && (x4 == y4 && true))))) := by kernel_rfl
@[go_sem high] theorem be22 {a b : Operand} (x0 y0 : Int) (x1 y1 : Int) (x2 y2 : Int) (x3 y3 : Int) (x4 y4 : Int) : binA Try.prog .eql 22 a b (.agg [.val (.int .i64 x0), .val (.int .i64 x1), .val (.int .i64 x2), .val (.int .i64 x3), .val (.int .i64 x4)]) (.agg [.val (.int .i64 y0), .val (.int .i64 y1), .val (.int .i64 y2), .val (.int .i64 y3), .val (.int .i64 y4)]) = some (.val (.bool (x0 == y0 && (x1 == y1 && (x2 == y2 && (x3 == y3 && (x4 == y4 && true))))))) := (bin_agg Try.underlying22 rfl rfl (eq22 ..)).1
@[go_sem high] theorem bq22 {a b : Operand} (x0 y0 : Int) (x1 y1 : Int) (x2 y2 : Int) (x3 y3 : Int) (x4 y4 : Int) : binA Try.prog .neq 22 a b (.agg [.val (.int .i64 x0), .val (.int .i64 x1), .val (.int .i64 x2), .val (.int .i64 x3), .val (.int .i64 x4)]) (.agg [.val (.int .i64 y0), .val (.int .i64 y1), .val (.int .i64 y2), .val (.int .i64 y3), .val (.int .i64 y4)]) = some (.val (.bool (!((x0 == y0 && (x1 == y1 && (x2 == y2 && (x3 == y3 && (x4 == y4 && true))))))))) := (bin_agg Try.underlying22 rfl rfl (eq22 ..)).2
@[go_sem] theorem fo23_0 : fieldOff Try.prog 23 0 = some 0 := field_off Try.underlying23 rfl sz2 (by decide)
@[go_sem] theorem ft23_0 : fieldTO Try.prog 23 0 = some (2, 0) := field_to Try.underlying23 rfl
@[go_sem] theorem fo23_1 : fieldOff Try.prog 23 1 = some 1 := field_off Try.underlying23 rfl sz3 (by decide)
@[go_sem] theorem ft23_1 : fieldTO Try.prog 23 1 = some (3, 1) := field_to Try.underlying23 rfl
@[go_sem] theorem fo23_2 : fieldOff Try.prog 23 2 = some 2 := field_off Try.underlying23 rfl sz2 (by decide)
@[go_sem] theorem ft23_2 : fieldTO Try.prog 23 2 = some (2, 2) := field_to Try.underlying23 rfl
@[go_sem] theorem fo23_3 : fieldOff Try.prog 23 3 = some 3 := field_off Try.underlying23 rfl sz2 (by decide)
@[go_sem] theorem ft23_3 : fieldTO Try.prog 23 3 = some (2, 3) := field_to Try.underlying23 rfl
@[go_sem] theorem fo23_4 : fieldOff Try.prog 23 4 = some 4 := field_off Try.underlying23 rfl sz2 (by decide)
@[go_sem] theorem ft23_4 : fieldTO Try.prog 23 4 = some (2, 4) := field_to Try.underlying23 rfl
@[go_sem] theorem bd23 (ps : List (Nat × AV)) : buildA Try.prog 23 ps = (fillA (fun i => ([(0, 1), (1, 1), (2, 1), (3, 1), (4, 1)] : List (Nat × Nat))[i]?) [.val (.int .i64 0), .val (.int .i64 0), .val (.int .i64 0), .val (.int .i64 0), .val (.int .i64 0)] ps).map .agg := build_of Try.underlying23 inf23 (by simp only [List.map_cons, List.map_nil, sz2, sz3, Option.map_some]) ps
@[go_sem] theorem eq23 (x0 y0 : Int) (x1 y1 : Int) (x2 y2 : Int) (x3 y3 : Int) (x4 y4 : Int) : aggEq Try.prog 23 (.agg #[.int .i64 x0, .int .i64 x1, .int .i64 x2, .int .i64 x3, .int .i64 x4]) (.agg #[.int .i64 y0, .int .i64 y1, .int .i64 y2, .int .i64 y3, .int .i64 y4]) = some (x0 == y0 && (x1 == y1 && (x2 == y2 && (x3 == y3 && (x4 == y4 && true))))) := by kernel_rfl
@[go_sem high] theorem be23 {a b : Operand} (x0 y0 : Int) (x1 y1 : Int) (x2 y2 : Int) (x3 y3 : Int) (x4 y4 : Int) : binA Try.prog .eql 23 a b (.agg [.val (.int .i64 x0), .val (.int .i64 x1), .val (.int .i64 x2), .val (.int .i64 x3), .val (.int .i64 x4)]) (.agg [.val (.int .i64 y0), .val (.int .i64 y1), .val (.int .i64 y2), .val (.int .i64 y3), .val (.int .i64 y4)]) = some (.val (.bool (x0 == y0 && (x1 == y1 && (x2 == y2 && (x3 == y3 && (x4 == y4 && true))))))) := (bin_agg Try.underlying23 rfl rfl (eq23 ..)).1
@[go_sem high] theorem bq23 {a b : Operand} (x0 y0 : Int) (x1 y1 : Int) (x2 y2 : Int) (x3 y3 : Int) (x4 y4 : Int) : binA Try.prog .neq 23 a b (.agg [.val (.int .i64 x0), .val (.int .i64 x1), .val (.int .i64 x2), .val (.int .i64 x3), .val (.int .i64 x4)]) (.agg [.val (.int .i64 y0), .val (.int .i64 y1), .val (.int .i64 y2), .val (.int .i64 y3), .val (.int .i64 y4)]) = some (.val (.bool (!((x0 == y0 && (x1 == y1 && (x2 == y2 && (x3 == y3 && (x4 == y4 && true))))))))) := (bin_agg Try.underlying23 rfl rfl (eq23 ..)).2
@[go_sem] theorem el39 : elemA Try.prog 39 = .sl 42 5 := elem_of Try.underlying39 sz42
@[go_sem] theorem ap39 (s x : AV) (H : Hp) : appendA Try.prog 39 39 s x H = appendB 42 5 5 s x H := append_of Try.underlying39 inf42 rfl (by decide) (by decide) s x H
@[go_sem] theorem mk39 (n : Int) : makeA Try.prog 39 n = if 0 ≤ n ∧ (5 : Nat) * n ≤ 281474976710656 ∧ n ≤ 9223372036854775807 then some (List.replicate n.toNat [.val (.int .u8 0), .val (.int .u8 0), .val (.int .u8 0), .val (.int .u8 0), .val (.int .u8 0)], 42) else none := make_of Try.underlying39 inf42 rfl (by decide) n
@[go_sem] theorem lit39 (len : Nat) (ps : List (Nat × AV)) : litA Try.prog 39 len ps = if len * 5 ≤ 16777216 then (fillE 5 (List.replicate len [.val (.int .u8 0), .val (.int .u8 0), .val (.int .u8 0), .val (.int .u8 0), .val (.int .u8 0)]) ps).map fun es => (es, 42) else none := lit_of Try.underlying39 inf42 rfl (by decide) len ps
@[go_sem] theorem sl39 (x : AV) (lo hi mx : Option AV) : sliceA Try.prog 39 x lo hi mx = sliceB 5 x lo hi mx := slice_of Try.underlying39 sz42 x lo hi mx
@[go_sem] theorem fo41_0 : fieldOff Try.prog 41 0 = some 0 := field_off Try.underlying41 rfl sz5 (by decide)
@[go_sem] theorem ft41_0 : fieldTO Try.prog 41 0 = some (5, 0) := field_to Try.underlying41 rfl
@[go_sem] theorem fo41_1 : fieldOff Try.prog 41 1 = some 1 := field_off Try.underlying41 rfl sz5 (by decide)
@[go_sem] theorem ft41_1 : fieldTO Try.prog 41 1 = some (5, 1) := field_to Try.underlying41 rfl
@[go_sem] theorem fo41_2 : fieldOff Try.prog 41 2 = some 2 := field_off Try.underlying41 rfl sz5 (by decide)
@[go_sem] theorem ft41_2 : fieldTO Try.prog 41 2 = some (5, 2) := field_to Try.underlying41 rfl
@[go_sem] theorem fo41_3 : fieldOff Try.prog 41 3 = some 3 := field_off Try.underlying41 rfl sz5 (by decide)
@[go_sem] theorem ft41_3 : fieldTO Try.prog 41 3 = some (5, 3) := field_to Try.underlying41 rfl
@[go_sem] theorem fo41_4 : fieldOff Try.prog 41 4 = some 4 := field_off Try.underlying41 rfl sz5 (by decide)
@[go_sem] theorem ft41_4 : fieldTO Try.prog 41 4 = some (5, 4) := field_to Try.underlying41 rfl
@[go_sem] theorem bd41 (ps : List (Nat × AV)) : buildA Try.prog 41 ps = (fillA (fun i => ([(0, 1), (1, 1), (2, 1), (3, 1), (4, 1)] : List (Nat × Nat))[i]?) [.val (.int .u8 0), .val (.int .u8 0), .val (.int .u8 0), .val (.int .u8 0), .val (.int .u8 0)] ps).map .agg := build_of Try.underlying41 inf41 (by simp only [List.map_cons, List.map_nil, sz5, Option.map_some]) ps
@[go_sem] theorem eq41 (x0 y0 : Int) (x1 y1 : Int) (x2 y2 : Int) (x3 y3 : Int) (x4 y4 : Int) : aggEq Try.prog 41 (.agg #[.int .u8 x0, .int .u8 x1, .int .u8 x2, .int .u8 x3, .int .u8 x4]) (.agg #[.int .u8 y0, .int .u8 y1, .int .u8 y2, .int .u8 y3, .int .u8 y4]) = some (x0 == y0 && (x1 == y1 && (x2 == y2 && (x3 == y3 && (x4 == y4 && true))))) := by kernel_rfl
@[go_sem high] theorem be41 {a b : Operand} (x0 y0 : Int) (x1 y1 : Int) (x2 y2 : Int) (x3 y3 : Int) (x4 y4 : Int) : binA Try.prog .eql 41 a b (.agg [.val (.int .u8 x0), .val (.int .u8 x1), .val (.int .u8 x2), .val (.int .u8 x3), .val (.int .u8 x4)]) (.agg [.val (.int .u8 y0), .val (.int .u8 y1), .val (.int .u8 y2), .val (.int .u8 y3), .val (.int .u8 y4)]) = some (.val (.bool (x0 == y0 && (x1 == y1 && (x2 == y2 && (x3 == y3 && (x4 == y4 && true))))))) := (bin_agg Try.underlying41 rfl rfl (eq41 ..)).1
@[go_sem high] theorem bq41 {a b : Operand} (x0 y0 : Int) (x1 y1 : Int) (x2 y2 : Int) (x3 y3 : Int) (x4 y4 : Int) : binA Try.prog .neq 41 a b (.agg [.val (.int .u8 x0), .val (.int .u8 x1), .val (.int .u8 x2), .val (.int .u8 x3), .val (.int .u8 x4)]) (.agg [.val (.int .u8 y0), .val (.int .u8 y1), .val (.int .u8 y2), .val (.int .u8 y3), .val (.int .u8 y4)]) = some (.val (.bool (!((x0 == y0 && (x1 == y1 && (x2 == y2 && (x3 == y3 && (x4 == y4 && true))))))))) := (bin_agg Try.underlying41 rfl rfl (eq41 ..)).2
@[go_sem] theorem fo42_0 : fieldOff Try.prog 42 0 = some 0 := field_off Try.underlying42 rfl sz5 (by decide)
@[go_sem] theorem ft42_0 : fieldTO Try.prog 42 0 = some (5, 0) := field_to Try.underlying42 rfl
@[go_sem] theorem fo42_1 : fieldOff Try.prog 42 1 = some 1 := field_off Try.underlying42 rfl sz5 (by decide)
@[go_sem] theorem ft42_1 : fieldTO Try.prog 42 1 = some (5, 1) := field_to Try.underlying42 rfl
@[go_sem] theorem fo42_2 : fieldOff Try.prog 42 2 = some 2 := field_off Try.underlying42 rfl sz5 (by decide)
@[go_sem] theorem ft42_2 : fieldTO Try.prog 42 2 = some (5, 2) := field_to Try.underlying42 rfl
@[go_sem] theorem fo42_3 : fieldOff Try.prog 42 3 = some 3 := field_off Try.underlying42 rfl sz5 (by decide)
@[go_sem] theorem ft42_3 : fieldTO Try.prog 42 3 = some (5, 3) := field_to Try.underlying42 rfl
@[go_sem] theorem fo42_4 : fieldOff Try.prog 42 4 = some 4 := field_off Try.underlying42 rfl sz5 (by decide)
@[go_sem] theorem ft42_4 : fieldTO Try.prog 42 4 = some (5, 4) := field_to Try.underlying42 rfl
@[go_sem] theorem bd42 (ps : List (Nat × AV)) : buildA Try.prog 42 ps = (fillA (fun i => ([(0, 1), (1, 1), (2, 1), (3, 1), (4, 1)] : List (Nat × Nat))[i]?) [.val (.int .u8 0), .val (.int .u8 0), .val (.int .u8 0), .val (.int .u8 0), .val (.int .u8 0)] ps).map .agg := build_of Try.underlying42 inf42 (by simp only [List.map_cons, List.map_nil, sz5, Option.map_some]) ps
@[go_sem] theorem eq42 (x0 y0 : Int) (x1 y1 : Int) (x2 y2 : Int) (x3 y3 : Int) (x4 y4 : Int) : aggEq Try.prog 42 (.agg #[.int .u8 x0, .int .u8 x1, .int .u8 x2, .int .u8 x3, .int .u8 x4]) (.agg #[.int .u8 y0, .int .u8 y1, .int .u8 y2, .int .u8 y3, .int .u8 y4]) = some (x0 == y0 && (x1 == y1 && (x2 == y2 && (x3 == y3 && (x4 == y4 && true))))) := by kernel_rfl
@[go_sem high] theorem be42 {a b : Operand} (x0 y0 : Int) (x1 y1 : Int) (x2 y2 : Int) (x3 y3 : Int) (x4 y4 : Int) : binA Try.prog .eql 42 a b (.agg [.val (.int .u8 x0), .val (.int .u8 x1), .val (.int .u8 x2), .val (.int .u8 x3), .val (.int .u8 x4)]) (.agg [.val (.int .u8 y0), .val (.int .u8 y1), .val (.int .u8 y2), .val (.int .u8 y3), .val (.int .u8 y4)]) = some (.val (.bool (x0 == y0 && (x1 == y1 && (x2 == y2 && (x3 == y3 && (x4 == y4 && true))))))) := (bin_agg Try.underlying42 rfl rfl (eq42 ..)).1
@[go_sem high] theorem bq42 {a b : Operand} (x0 y0 : Int) (x1 y1 : Int) (x2 y2 : Int) (x3 y3 : Int) (x4 y4 : Int) : binA Try.prog .neq 42 a b (.agg [.val (.int .u8 x0), .val (.int .u8 x1), .val (.int .u8 x2), .val (.int .u8 x3), .val (.int .u8 x4)]) (.agg [.val (.int .u8 y0), .val (.int .u8 y1), .val (.int .u8 y2), .val (.int .u8 y3), .val (.int .u8 y4)]) = some (.val (.bool (!((x0 == y0 && (x1 == y1 && (x2 == y2 && (x3 == y3 && (x4 == y4 && true))))))))) := (bin_agg Try.underlying42 rfl rfl (eq42 ..)).2
@[go_sem] theorem el44 : elemA Try.prog 44 = .sl 53 7 := elem_of Try.underlying44 sz53
@[go_sem] theorem ap44 (s x : AV) (H : Hp) : appendA Try.prog 44 44 s x H = appendB 53 7 56 s x H := append_of Try.underlying44 inf53 rfl (by decide) (by decide) s x H
@[go_sem] theorem mk44 (n : Int) : makeA Try.prog 44 n = if 0 ≤ n ∧ (56 : Nat) * n ≤ 281474976710656 ∧ n ≤ 9223372036854775807 then some (List.replicate n.toNat [.val (.int .i64 0), .val (.int .i64 0), .val (.int .i64 0), .val (.int .i64 0), .val (.int .i64 0), .val (.bool false), .val (.int .i64 0)], 53) else none := make_of Try.underlying44 inf53 rfl (by decide) n
@[go_sem] theorem lit44 (len : Nat) (ps : List (Nat × AV)) : litA Try.prog 44 len ps = if len * 7 ≤ 16777216 then (fillE 7 (List.replicate len [.val (.int .i64 0), .val (.int .i64 0), .val (.int .i64 0), .val (.int .i64 0), .val (.int .i64 0), .val (.bool false), .val (.int .i64 0)]) ps).map fun es => (es, 53) else none := lit_of Try.underlying44 inf53 rfl (by decide) len ps
@[go_sem] theorem sl44 (x : AV) (lo hi mx : Option AV) : sliceA Try.prog 44 x lo hi mx = sliceB 7 x lo hi mx := slice_of Try.underlying44 sz53 x lo hi mx
@[go_sem] theorem el46 : elemA Try.prog 46 = .sl 2 1 := elem_of Try.underlying46 sz2
@[go_sem] theorem ap46 (s x : AV) (H : Hp) : appendA Try.prog 46 46 s x H = appendB 2 1 8 s x H := append_of Try.underlying46 inf2 rfl (by decide) (by decide) s x H
@[go_sem] theorem mk46 (n : Int) : makeA Try.prog 46 n = if 0 ≤ n ∧ (8 : Nat) * n ≤ 281474976710656 ∧ n ≤ 9223372036854775807 then some (List.replicate n.toNat [.val (.int .i64 0)], 2) else none := make_of Try.underlying46 inf2 rfl (by decide) n
@[go_sem] theorem lit46 (len : Nat) (ps : List (Nat × AV)) : litA Try.prog 46 len ps = if len * 1 ≤ 16777216 then (fillE 1 (List.replicate len [.val (.int .i64 0)]) ps).map fun es => (es, 2) else none := lit_of Try.underlying46 inf2 rfl (by decide) len ps
@[go_sem] theorem sl46 (x : AV) (lo hi mx : Option AV) : sliceA Try.prog 46 x lo hi mx = sliceB 1 x lo hi mx := slice_of Try.underlying46 sz2 x lo hi mx
@[go_sem] theorem fo52_0 : fieldOff Try.prog 52 0 = some 0 := field_off Try.underlying52 rfl sz23 (by decide)
@[go_sem] theorem ft52_0 : fieldTO Try.prog 52 0 = some (23, 0) := field_to Try.underlying52 rfl
@[go_sem] theorem fo52_1 : fieldOff Try.prog 52 1 = some 5 := field_off Try.underlying52 rfl sz4 (by decide)
@[go_sem] theorem ft52_1 : fieldTO Try.prog 52 1 = some (4, 5) := field_to Try.underlying52 rfl
@[go_sem] theorem fo52_2 : fieldOff Try.prog 52 2 = some 6 := field_off Try.underlying52 rfl sz2 (by decide)
@[go_sem] theorem ft52_2 : fieldTO Try.prog 52 2 = some (2, 6) := field_to Try.underlying52 rfl
@[go_sem] theorem bd52 (ps : List (Nat × AV)) : buildA Try.prog 52 ps = (fillA (fun i => ([(0, 5), (5, 1), (6, 1)] : List (Nat × Nat))[i]?) [.val (.int .i64 0), .val (.int .i64 0), .val (.int .i64 0), .val (.int .i64 0), .val (.int .i64 0), .val (.bool false), .val (.int .i64 0)] ps).map .agg := build_of Try.underlying52 inf52 (by simp only [List.map_cons, List.map_nil, sz2, sz4, sz23, Option.map_some]) ps
@[go_sem] theorem eq52 (x0 y0 : Int) (x1 y1 : Int) (x2 y2 : Int) (x3 y3 : Int) (x4 y4 : Int) (x5 y5 : Bool) (x6 y6 : Int) : aggEq Try.prog 52 (.agg #[.int .i64 x0, .int .i64 x1, .int .i64 x2, .int .i64 x3, .int .i64 x4, .bool x5, .int .i64 x6]) (.agg #[.int .i64 y0, .int .i64 y1, .int .i64 y2, .int .i64 y3, .int .i64 y4, .bool y5, .int .i64 y6]) = some ((x0 == y0 && (x1 == y1 && (x2 == y2 && (x3 == y3 && (x4 == y4 && true))))) && (x5 == y5 && (x6 == y6 && true))) := by kernel_rfl
@[go_sem high] theorem be52 {a b : Operand} (x0 y0 : Int) (x1 y1 : Int) (x2 y2 : Int) (x3 y3 : Int) (x4 y4 : Int) (x5 y5 : Bool) (x6 y6 : Int) : binA Try.prog .eql 52 a b (.agg [.val (.int .i64 x0), .val (.int .i64 x1), .val (.int .i64 x2), .val (.int .i64 x3), .val (.int .i64 x4), .val (.bool x5), .val (.int .i64 x6)]) (.agg [.val (.int .i64 y0), .val (.int .i64 y1), .val (.int .i64 y2), .val (.int .i64 y3), .val (.int .i64 y4), .val (.bool y5), .val (.int .i64 y6)]) = some (.val (.bool ((x0 == y0 && (x1 == y1 && (x2 == y2 && (x3 == y3 && (x4 == y4 && true))))) && (x5 == y5 && (x6 == y6 && true))))) := (bin_agg Try.underlying52 rfl rfl (eq52 ..)).1
@[go_sem high] theorem bq52 {a b : Operand} (x0 y0 : Int) (x1 y1 : Int) (x2 y2 : Int) (x3 y3 : Int) (x4 y4 : Int) (x5 y5 : Bool) (x6 y6 : Int) : binA Try.prog .neq 52 a b (.agg [.val (.int .i64 x0), .val (.int .i64 x1), .val (.int .i64 x2), .val (.int .i64 x3), .val (.int .i64 x4), .val (.bool x5), .val (.int .i64 x6)]) (.agg [.val (.int .i64 y0), .val (.int .i64 y1), .val (.int .i64 y2), .val (.int .i64 y3), .val (.int .i64 y4), .val (.bool y5), .val (.int .i64 y6)]) = some (.val (.bool (!(((x0 == y0 && (x1 == y1 && (x2 == y2 && (x3 == y3 && (x4 == y4 && true))))) && (x5 == y5 && (x6 == y6 && true))))))) := (bin_agg Try.underlying52 rfl rfl (eq52 ..)).2
@[go_sem] theorem fo53_0 : fieldOff Try.prog 53 0 = some 0 := field_off Try.underlying53 rfl sz23 (by decide)
@[go_sem] theorem ft53_0 : fieldTO Try.prog 53 0 = some (23, 0) := field_to Try.underlying53 rfl
@[go_sem] theorem fo53_1 : fieldOff Try.prog 53 1 = some 5 := field_off Try.underlying53 rfl sz4 (by decide)
@[go_sem] theorem ft53_1 : fieldTO Try.prog 53 1 = some (4, 5) := field_to Try.underlying53 rfl
@[go_sem] theorem fo53_2 : fieldOff Try.prog 53 2 = some 6 := field_off Try.underlying53 rfl sz2 (by decide)
@[go_sem] theorem ft53_2 : fieldTO Try.prog 53 2 = some (2, 6) := field_to Try.underlying53 rfl
@[go_sem] theorem bd53 (ps : List (Nat × AV)) : buildA Try.prog 53 ps = (fillA (fun i => ([(0, 5), (5, 1), (6, 1)] : List (Nat × Nat))[i]?) [.val (.int .i64 0), .val (.int .i64 0), .val (.int .i64 0), .val (.int .i64 0), .val (.int .i64 0), .val (.bool false), .val (.int .i64 0)] ps).map .agg := build_of Try.underlying53 inf53 (by simp only [List.map_cons, List.map_nil, sz2, sz4, sz23, Option.map_some]) ps
@[go_sem] theorem eq53 (x0 y0 : Int) (x1 y1 : Int) (x2 y2 : Int) (x3 y3 : Int) (x4 y4 : Int) (x5 y5 : Bool) (x6 y6 : Int) : aggEq Try.prog 53 (.agg #[.int .i64 x0, .int .i64 x1, .int .i64 x2, .int .i64 x3, .int .i64 x4, .bool x5, .int .i64 x6]) (.agg #[.int .i64 y0, .int .i64 y1, .int .i64 y2, .int .i64 y3, .int .i64 y4, .bool y5, .int .i64 y6]) = some ((x0 == y0 && (x1 == y1 && (x2 == y2 && (x3 == y3 && (x4 == y4 && true))))) && (x5 == y5 && (x6 == y6 && true))) := by kernel_rfl
@[go_sem high] theorem be53 {a b : Operand} (x0 y0 : Int) (x1 y1 : Int) (x2 y2 : Int) (x3 y3 : Int) (x4 y4 : Int) (x5 y5 : Bool) (x6 y6 : Int) : binA Try.prog .eql 53 a b (.agg [.val (.int .i64 x0), .val (.int .i64 x1), .val (.int .i64 x2), .val (.int .i64 x3), .val (.int .i64 x4), .val (.bool x5), .val (.int .i64 x6)]) (.agg [.val (.int .i64 y0), .val (.int .i64 y1), .val (.int .i64 y2), .val (.int .i64 y3), .val (.int .i64 y4), .val (.bool y5), .val (.int .i64 y6)]) = some (.val (.bool ((x0 == y0 && (x1 == y1 && (x2 == y2 && (x3 == y3 && (x4 == y4 && true))))) && (x5 == y5 && (x6 == y6 && true))))) := (bin_agg Try.underlying53 rfl rfl (eq53 ..)).1
@[go_sem high] theorem bq53 {a b : Operand} (x0 y0 : Int) (x1 y1 : Int) (x2 y2 : Int) (x3 y3 : Int) (x4 y4 : Int) (x5 y5 : Bool) (x6 y6 : Int) : binA Try.prog .neq 53 a b (.agg [.val (.int .i64 x0), .val (.int .i64 x1), .val (.int .i64 x2), .val (.int .i64 x3), .val (.int .i64 x4), .val (.bool x5), .val (.int .i64 x6)]) (.agg [.val (.int .i64 y0), .val (.int .i64 y1), .val (.int .i64 y2), .val (.int .i64 y3), .val (.int .i64 y4), .val (.bool y5), .val (.int .i64 y6)]) = some (.val (.bool (!(((x0 == y0 && (x1 == y1 && (x2 == y2 && (x3 == y3 && (x4 == y4 && true))))) && (x5 == y5 && (x6 == y6 && true))))))) := (bin_agg Try.underlying53 rfl rfl (eq53 ..)).2
@[go_sem] theorem el57 : elemA Try.prog 57 = .sl 58 3 := elem_of Try.underlying57 sz58
@[go_sem] theorem ap57 (s x : AV) (H : Hp) : appendA Try.prog 57 57 s x H = appendB 58 3 3 s x H := append_of Try.underlying57 inf58 rfl (by decide) (by decide) s x H
@[go_sem] theorem mk57 (n : Int) : makeA Try.prog 57 n = if 0 ≤ n ∧ (3 : Nat) * n ≤ 281474976710656 ∧ n ≤ 9223372036854775807 then some (List.replicate n.toNat [.val (.int .u8 0), .val (.int .u8 0), .val (.int .u8 0)], 58) else none := make_of Try.underlying57 inf58 rfl (by decide) n
@[go_sem] theorem lit57 (len : Nat) (ps : List (Nat × AV)) : litA Try.prog 57 len ps = if len * 3 ≤ 16777216 then (fillE 3 (List.replicate len [.val (.int .u8 0), .val (.int .u8 0), .val (.int .u8 0)]) ps).map fun es => (es, 58) else none := lit_of Try.underlying57 inf58 rfl (by decide) len ps
@[go_sem] theorem sl57 (x : AV) (lo hi mx : Option AV) : sliceA Try.prog 57 x lo hi mx = sliceB 3 x lo hi mx := slice_of Try.underlying57 sz58 x lo hi mx
@[go_sem] theorem el58 : elemA Try.prog 58 = .ar 3 5 1 := elem_arr Try.underlying58 sz5 (by decide)
@[go_sem] theorem el61 : elemA Try.prog 61 = .sl 65 10 := elem_of Try.underlying61 sz65
@[go_sem] theorem ap61 (s x : AV) (H : Hp) : appendA Try.prog 61 61 s x H = appendB 65 10 96 s x H := append_of Try.underlying61 inf65 rfl (by decide) (by decide) s x H
@[go_sem] theorem mk61 (n : Int) : makeA Try.prog 61 n = if 0 ≤ n ∧ (96 : Nat) * n ≤ 281474976710656 ∧ n ≤ 9223372036854775807 then some (List.replicate n.toNat [.val (.int .u8 0), .val (.int .i64 0), .val (.int .i64 0), .val (.int .i64 0), .val (.int .i64 0), .val (.int .i64 0), .val (.int .i64 0), .val (.int .i64 0), .val (.int .i64 0), .val (.slice none 0 0)], 65) else none := make_of Try.underlying61 inf65 rfl (by decide) n
@[go_sem] theorem lit61 (len : Nat) (ps : List (Nat × AV)) : litA Try.prog 61 len ps = if len * 10 ≤ 16777216 then (fillE 10 (List.replicate len [.val (.int .u8 0), .val (.int .i64 0), .val (.int .i64 0), .val (.int .i64 0), .val (.int .i64 0), .val (.int .i64 0), .val (.int .i64 0), .val (.int .i64 0), .val (.int .i64 0), .val (.slice none 0 0)]) ps).map fun es => (es, 65) else none := lit_of Try.underlying61 inf65 rfl (by decide) len ps
@[go_sem] theorem sl61 (x : AV) (lo hi mx : Option AV) : sliceA Try.prog 61 x lo hi mx = sliceB 10 x lo hi mx := slice_of Try.underlying61 sz65 x lo hi mx
@[go_sem] theorem el63 : elemA Try.prog 63 = .sl 70 2 := elem_of Try.underlying63 sz70
@[go_sem] theorem ap63 (s x : AV) (H : Hp) : appendA Try.prog 63 63 s x H = appendB 70 2 16 s x H := append_of Try.underlying63 inf70 rfl (by decide) (by decide) s x H
@[go_sem] theorem mk63 (n : Int) : makeA Try.prog 63 n = if 0 ≤ n ∧ (16 : Nat) * n ≤ 281474976710656 ∧ n ≤ 9223372036854775807 then some (List.replicate n.toNat [.val (.int .i64 0), .val (.int .i64 0)], 70) else none := make_of Try.underlying63 inf70 rfl (by decide) n
@[go_sem] theorem lit63 (len : Nat) (ps : List (Nat × AV)) : litA Try.prog 63 len ps = if len * 2 ≤ 16777216 then (fillE 2 (List.replicate len [.val (.int .i64 0), .val (.int .i64 0)]) ps).map fun es => (es, 70) else none := lit_of Try.underlying63 inf70 rfl (by decide) len ps
@[go_sem] theorem sl63 (x : AV) (lo hi mx : Option AV) : sliceA Try.prog 63 x lo hi mx = sliceB 2 x lo hi mx := slice_of Try.underlying63 sz70 x lo hi mx
@[go_sem] theorem fo64_0 : fieldOff Try.prog 64 0 = some 0 := field_off Try.underlying64 rfl sz5 (by decide)
@[go_sem] theorem ft64_0 : fieldTO Try.prog 64 0 = some (5, 0) := field_to Try.underlying64 rfl
@[go_sem] theorem fo64_1 : fieldOff Try.prog 64 1 = some 1 := field_off Try.underlying64 rfl sz23 (by decide)
@[go_sem] theorem ft64_1 : fieldTO Try.prog 64 1 = some (23, 1) := field_to Try.underlying64 rfl
@[go_sem] theorem fo64_2 : fieldOff Try.prog 64 2 = some 6 := field_off Try.underlying64 rfl sz2 (by decide)
@[go_sem] theorem ft64_2 : fieldTO Try.prog 64 2 = some (2, 6) := field_to Try.underlying64 rfl
@[go_sem] theorem fo64_3 : fieldOff Try.prog 64 3 = some 7 := field_off Try.underlying64 rfl sz2 (by decide)
@[go_sem] theorem ft64_3 : fieldTO Try.prog 64 3 = some (2, 7) := field_to Try.underlying64 rfl
@[go_sem] theorem fo64_4 : fieldOff Try.prog 64 4 = some 8 := field_off Try.underlying64 rfl sz2 (by decide)
@[go_sem] theorem ft64_4 : fieldTO Try.prog 64 4 = some (2, 8) := field_to Try.underlying64 rfl
@[go_sem] theorem fo64_5 : fieldOff Try.prog 64 5 = some 9 := field_off Try.underlying64 rfl sz63 (by decide)
@[go_sem] theorem ft64_5 : fieldTO Try.prog 64 5 = some (63, 9) := field_to Try.underlying64 rfl
@[go_sem] theorem bd64 (ps : List (Nat × AV)) : buildA Try.prog 64 ps = (fillA (fun i => ([(0, 1), (1, 5), (6, 1), (7, 1), (8, 1), (9, 1)] : List (Nat × Nat))[i]?) [.val (.int .u8 0), .val (.int .i64 0), .val (.int .i64 0), .val (.int .i64 0), .val (.int .i64 0), .val (.int .i64 0), .val (.int .i64 0), .val (.int .i64 0), .val (.int .i64 0), .val (.slice none 0 0)] ps).map .agg := build_of Try.underlying64 inf64 (by simp only [List.map_cons, List.map_nil, sz2, sz5, sz23, sz63, Option.map_some]) ps
@[go_sem] theorem fo65_0 : fieldOff Try.prog 65 0 = some 0 := field_off Try.underlying65 rfl sz5 (by decide)
@[go_sem] theorem ft65_0 : fieldTO Try.prog 65 0 = some (5, 0) := field_to Try.underlying65 rfl
@[go_sem] theorem fo65_1 : fieldOff Try.prog 65 1 = some 1 := field_off Try.underlying65 rfl sz23 (by decide)
@[go_sem] theorem ft65_1 : fieldTO Try.prog 65 1 = some (23, 1) := field_to Try.underlying65 rfl
@[go_sem] theorem fo65_2 : fieldOff Try.prog 65 2 = some 6 := field_off Try.underlying65 rfl sz2 (by decide)
@[go_sem] theorem ft65_2 : fieldTO Try.prog 65 2 = some (2, 6) := field_to Try.underlying65 rfl
@[go_sem] theorem fo65_3 : fieldOff Try.prog 65 3 = some 7 := field_off Try.underlying65 rfl sz2 (by decide)
@[go_sem] theorem ft65_3 : fieldTO Try.prog 65 3 = some (2, 7) := field_to Try.underlying65 rfl
@[go_sem] theorem fo65_4 : fieldOff Try.prog 65 4 = some 8 := field_off Try.underlying65 rfl sz2 (by decide)
@[go_sem] theorem ft65_4 : fieldTO Try.prog 65 4 = some (2, 8) := field_to Try.underlying65 rfl
@[go_sem] theorem fo65_5 : fieldOff Try.prog 65 5 = some 9 := field_off Try.underlying65 rfl sz63 (by decide)
@[go_sem] theorem ft65_5 : fieldTO Try.prog 65 5 = some (63, 9) := field_to Try.underlying65 rfl
@[go_sem] theorem bd65 (ps : List (Nat × AV)) : buildA Try.prog 65 ps = (fillA (fun i => ([(0, 1), (1, 5), (6, 1), (7, 1), (8, 1), (9, 1)] : List (Nat × Nat))[i]?) [.val (.int .u8 0), .val (.int .i64 0), .val (.int .i64 0), .val (.int .i64 0), .val (.int .i64 0), .val (.int .i64 0), .val (.int .i64 0), .val (.int .i64 0), .val (.int .i64 0), .val (.slice none 0 0)] ps).map .agg := build_of Try.underlying65 inf65 (by simp only [List.map_cons, List.map_nil, sz2, sz5, sz23, sz63, Option.map_some]) ps
@[go_sem] theorem fo69_0 : fieldOff Try.prog 69 0 = some 0 := field_off Try.underlying69 rfl sz2 (by decide)
@[go_sem] theorem ft69_0 : fieldTO Try.prog 69 0 = some (2, 0) := field_to Try.underlying69 rfl
@[go_sem] theorem fo69_1 : fieldOff Try.prog 69 1 = some 1 := field_off Try.underlying69 rfl sz2 (by decide)
@[go_sem] theorem ft69_1 : fieldTO Try.prog 69 1 = some (2, 1) := field_to Try.underlying69 rfl
@[go_sem] theorem bd69 (ps : List (Nat × AV)) : buildA Try.prog 69 ps = (fillA (fun i => ([(0, 1), (1, 1)] : List (Nat × Nat))[i]?) [.val (.int .i64 0), .val (.int .i64 0)] ps).map .agg := build_of Try.underlying69 inf69 (by simp only [List.map_cons, List.map_nil, sz2, Option.map_some]) ps
@[go_sem] theorem eq69 (x0 y0 : Int) (x1 y1 : Int) : aggEq Try.prog 69 (.agg #[.int .i64 x0, .int .i64 x1]) (.agg #[.int .i64 y0, .int .i64 y1]) = some (x0 == y0 && (x1 == y1 && true)) := by kernel_rfl
@[go_sem high] theorem be69 {a b : Operand} (x0 y0 : Int) (x1 y1 : Int) : binA Try.prog .eql 69 a b (.agg [.val (.int .i64 x0), .val (.int .i64 x1)]) (.agg [.val (.int .i64 y0), .val (.int .i64 y1)]) = some (.val (.bool (x0 == y0 && (x1 == y1 && true)))) := (bin_agg Try.underlying69 rfl rfl (eq69 ..)).1
@[go_sem high] theorem bq69 {a b : Operand} (x0 y0 : Int) (x1 y1 : Int) : binA Try.prog .neq 69 a b (.agg [.val (.int .i64 x0), .val (.int .i64 x1)]) (.agg [.val (.int .i64 y0), .val (.int .i64 y1)]) = some (.val (.bool (!((x0 == y0 && (x1 == y1 && true)))))) := (bin_agg Try.underlying69 rfl rfl (eq69 ..)).2
@[go_sem] theorem fo70_0 : fieldOff Try.prog 70 0 = some 0 := field_off Try.underlying70 rfl sz2 (by decide)
@[go_sem] theorem ft70_0 : fieldTO Try.prog 70 0 = some (2, 0) := field_to Try.underlying70 rfl
@[go_sem] theorem fo70_1 : fieldOff Try.prog 70 1 = some 1 := field_off Try.underlying70 rfl sz2 (by decide)
@[go_sem] theorem ft70_1 : fieldTO Try.prog 70 1 = some (2, 1) := field_to Try.underlying70 rfl
@[go_sem] theorem bd70 (ps : List (Nat × AV)) : buildA Try.prog 70 ps = (fillA (fun i => ([(0, 1), (1, 1)] : List (Nat × Nat))[i]?) [.val (.int .i64 0), .val (.int .i64 0)] ps).map .agg := build_of Try.underlying70 inf70 (by simp only [List.map_cons, List.map_nil, sz2, Option.map_some]) ps
@[go_sem] theorem eq70 (x0 y0 : Int) (x1 y1 : Int) : aggEq Try.prog 70 (.agg #[.int .i64 x0, .int .i64 x1]) (.agg #[.int .i64 y0, .int .i64 y1]) = some (x0 == y0 && (x1 == y1 && true)) := by kernel_rfl
@[go_sem high] theorem be70 {a b : Operand} (x0 y0 : Int) (x1 y1 : Int) : binA Try.prog .eql 70 a b (.agg [.val (.int .i64 x0), .val (.int .i64 x1)]) (.agg [.val (.int .i64 y0), .val (.int .i64 y1)]) = some (.val (.bool (x0 == y0 && (x1 == y1 && true)))) := (bin_agg Try.underlying70 rfl rfl (eq70 ..)).1
@[go_sem high] theorem bq70 {a b : Operand} (x0 y0 : Int) (x1 y1 : Int) : binA Try.prog .neq 70 a b (.agg [.val (.int .i64 x0), .val (.int .i64 x1)]) (.agg [.val (.int .i64 y0), .val (.int .i64 y1)]) = some (.val (.bool (!((x0 == y0 && (x1 == y1 && true)))))) := (bin_agg Try.underlying70 rfl rfl (eq70 ..)).2
@[go_sem] theorem fo72_0 : fieldOff Try.prog 72 0 = some 0 := field_off Try.underlying72 rfl sz2 (by decide)
@[go_sem] theorem ft72_0 : fieldTO Try.prog 72 0 = some (2, 0) := field_to Try.underlying72 rfl
@[go_sem] theorem fo72_1 : fieldOff Try.prog 72 1 = some 1 := field_off Try.underlying72 rfl sz2 (by decide)
@[go_sem] theorem ft72_1 : fieldTO Try.prog 72 1 = some (2, 1) := field_to Try.underlying72 rfl
@[go_sem] theorem fo72_2 : fieldOff Try.prog 72 2 = some 2 := field_off Try.underlying72 rfl sz44 (by decide)
@[go_sem] theorem ft72_2 : fieldTO Try.prog 72 2 = some (44, 2) := field_to Try.underlying72 rfl
@[go_sem] theorem bd72 (ps : List (Nat × AV)) : buildA Try.prog 72 ps = (fillA (fun i => ([(0, 1), (1, 1), (2, 1)] : List (Nat × Nat))[i]?) [.val (.int .i64 0), .val (.int .i64 0), .val (.slice none 0 0)] ps).map .agg := build_of Try.underlying72 inf72 (by simp only [List.map_cons, List.map_nil, sz2, sz44, Option.map_some]) ps
@[go_sem] theorem fo73_0 : fieldOff Try.prog 73 0 = some 0 := field_off Try.underlying73 rfl sz2 (by decide)
@[go_sem] theorem ft73_0 : fieldTO Try.prog 73 0 = some (2, 0) := field_to Try.underlying73 rfl
@[go_sem] theorem fo73_1 : fieldOff Try.prog 73 1 = some 1 := field_off Try.underlying73 rfl sz2 (by decide)
@[go_sem] theorem ft73_1 : fieldTO Try.prog 73 1 = some (2, 1) := field_to Try.underlying73 rfl
@[go_sem] theorem fo73_2 : fieldOff Try.prog 73 2 = some 2 := field_off Try.underlying73 rfl sz44 (by decide)
@[go_sem] theorem ft73_2 : fieldTO Try.prog 73 2 = some (44, 2) := field_to Try.underlying73 rfl
@[go_sem] theorem bd73 (ps : List (Nat × AV)) : buildA Try.prog 73 ps = (fillA (fun i => ([(0, 1), (1, 1), (2, 1)] : List (Nat × Nat))[i]?) [.val (.int .i64 0), .val (.int .i64 0), .val (.slice none 0 0)] ps).map .agg := build_of Try.underlying73 inf73 (by simp only [List.map_cons, List.map_nil, sz2, sz44, Option.map_some]) ps
@[go_sem] theorem el75 : elemA Try.prog 75 = .sl 23 5 := elem_of Try.underlying75 sz23
@[go_sem] theorem ap75 (s x : AV) (H : Hp) : appendA Try.prog 75 75 s x H = appendB 23 5 40 s x H := append_of Try.underlying75 inf23 rfl (by decide) (by decide) s x H
@[go_sem] theorem mk75 (n : Int) : makeA Try.prog 75 n = if 0 ≤ n ∧ (40 : Nat) * n ≤ 281474976710656 ∧ n ≤ 9223372036854775807 then some (List.replicate n.toNat [.val (.int .i64 0), .val (.int .i64 0), .val (.int .i64 0), .val (.int .i64 0), .val (.int .i64 0)], 23) else none := make_of Try.underlying75 inf23 rfl (by decide) n
@[go_sem] theorem lit75 (len : Nat) (ps : List (Nat × AV)) : litA Try.prog 75 len ps = if len * 5 ≤ 16777216 then (fillE 5 (List.replicate len [.val (.int .i64 0), .val (.int .i64 0), .val (.int .i64 0), .val (.int .i64 0), .val (.int .i64 0)]) ps).map fun es => (es, 23) else none := lit_of Try.underlying75 inf23 rfl (by decide) len ps
@[go_sem] theorem sl75 (x : AV) (lo hi mx : Option AV) : sliceA Try.prog 75 x lo hi mx = sliceB 5 x lo hi mx := slice_of Try.underlying75 sz23 x lo hi mx
@[go_sem] theorem fo79_0 : fieldOff Try.prog 79 0 = some 0 := field_off Try.underlying79 rfl sz75 (by decide)
@[go_sem] theorem ft79_0 : fieldTO Try.prog 79 0 = some (75, 0) := field_to Try.underlying79 rfl
@[go_sem] theorem bd79 (ps : List (Nat × AV)) : buildA Try.prog 79 ps = (fillA (fun i => ([(0, 1)] : List (Nat × Nat))[i]?) [.val (.slice none 0 0)] ps).map .agg := build_of Try.underlying79 inf79 (by simp only [List.map_cons, List.map_nil, sz75, Option.map_some]) ps
@[go_sem] theorem fo80_0 : fieldOff Try.prog 80 0 = some 0 := field_off Try.underlying80 rfl sz75 (by decide)
@[go_sem] theorem ft80_0 : fieldTO Try.prog 80 0 = some (75, 0) := field_to Try.underlying80 rfl
@[go_sem] theorem bd80 (ps : List (Nat × AV)) : buildA Try.prog 80 ps = (fillA (fun i => ([(0, 1)] : List (Nat × Nat))[i]?) [.val (.slice none 0 0)] ps).map .agg := build_of Try.underlying80 inf80 (by simp only [List.map_cons, List.map_nil, sz75, Option.map_some]) ps
@[go_sem] theorem el85 : elemA Try.prog 85 = .sl 94 2 := elem_of Try.underlying85 sz94
@[go_sem] theorem ap85 (s x : AV) (H : Hp) : appendA Try.prog 85 85 s x H = appendB 94 2 16 s x H := append_of Try.underlying85 inf94 rfl (by decide) (by decide) s x H
@[go_sem] theorem mk85 (n : Int) : makeA Try.prog 85 n = if 0 ≤ n ∧ (16 : Nat) * n ≤ 281474976710656 ∧ n ≤ 9223372036854775807 then some (List.replicate n.toNat [.val (.int .i64 0), .val (.int .i64 0)], 94) else none := make_of Try.underlying85 inf94 rfl (by decide) n
@[go_sem] theorem lit85 (len : Nat) (ps : List (Nat × AV)) : litA Try.prog 85 len ps = if len * 2 ≤ 16777216 then (fillE 2 (List.replicate len [.val (.int .i64 0), .val (.int .i64 0)]) ps).map fun es => (es, 94) else none := lit_of Try.underlying85 inf94 rfl (by decide) len ps
@[go_sem] theorem sl85 (x : AV) (lo hi mx : Option AV) : sliceA Try.prog 85 x lo hi mx = sliceB 2 x lo hi mx := slice_of Try.underlying85 sz94 x lo hi mx
@[go_sem] theorem el86 : elemA Try.prog 86 = .sl 3 1 := elem_of Try.underlying86 sz3
@[go_sem] theorem ap86 (s x : AV) (H : Hp) : appendA Try.prog 86 86 s x H = appendB 3 1 8 s x H := append_of Try.underlying86 inf3 rfl (by decide) (by decide) s x H
@[go_sem] theorem mk86 (n : Int) : makeA Try.prog 86 n = if 0 ≤ n ∧ (8 : Nat) * n ≤ 281474976710656 ∧ n ≤ 9223372036854775807 then some (List.replicate n.toNat [.val (.int .i64 0)], 3) else none := make_of Try.underlying86 inf3 rfl (by decide) n
@[go_sem] theorem lit86 (len : Nat) (ps : List (Nat × AV)) : litA Try.prog 86 len ps = if len * 1 ≤ 16777216 then (fillE 1 (List.replicate len [.val (.int .i64 0)]) ps).map fun es => (es, 3) else none := lit_of Try.underlying86 inf3 rfl (by decide) len ps
@[go_sem] theorem sl86 (x : AV) (lo hi mx : Option AV) : sliceA Try.prog 86 x lo hi mx = sliceB 1 x lo hi mx := slice_of Try.underlying86 sz3 x lo hi mx
@[go_sem] theorem el90 : elemA Try.prog 90 = .sl 155 2 := elem_of Try.underlying90 sz155
@[go_sem] theorem ap90 (s x : AV) (H : Hp) : appendA Try.prog 90 90 s x H = appendB 155 2 2 s x H := append_of Try.underlying90 inf155 rfl (by decide) (by decide) s x H
@[go_sem] theorem mk90 (n : Int) : makeA Try.prog 90 n = if 0 ≤ n ∧ (2 : Nat) * n ≤ 281474976710656 ∧ n ≤ 9223372036854775807 then some (List.replicate n.toNat [.val (.int .u8 0), .val (.int .u8 0)], 155) else none := make_of Try.underlying90 inf155 rfl (by decide) n
@[go_sem] theorem lit90 (len : Nat) (ps : List (Nat × AV)) : litA Try.prog 90 len ps = if len * 2 ≤ 16777216 then (fillE 2 (List.replicate len [.val (.int .u8 0), .val (.int .u8 0)]) ps).map fun es => (es, 155) else none := lit_of Try.underlying90 inf155 rfl (by decide) len ps
@[go_sem] theorem sl90 (x : AV) (lo hi mx : Option AV) : sliceA Try.prog 90 x lo hi mx = sliceB 2 x lo hi mx := slice_of Try.underlying90 sz155 x lo hi mx
@[go_sem] theorem fo93_0 : fieldOff Try.prog 93 0 = some 0 := field_off Try.underlying93 rfl sz2 (by decide)
@[go_sem] theorem ft93_0 : fieldTO Try.prog 93 0 = some (2, 0) := field_to Try.underlying93 rfl
@[go_sem] theorem fo93_1 : fieldOff Try.prog 93 1 = some 1 := field_off Try.underlying93 rfl sz2 (by decide)
@[go_sem] theorem ft93_1 : fieldTO Try.prog 93 1 = some (2, 1) := field_to Try.underlying93 rfl
@[go_sem] theorem bd93 (ps : List (Nat × AV)) : buildA Try.prog 93 ps = (fillA (fun i => ([(0, 1), (1, 1)] : List (Nat × Nat))[i]?) [.val (.int .i64 0), .val (.int .i64 0)] ps).map .agg := build_of Try.underlying93 inf93 (by simp only [List.map_cons, List.map_nil, sz2, Option.map_some]) ps
@[go_sem] theorem eq93 (x0 y0 : Int) (x1 y1 : Int) : aggEq Try.prog 93 (.agg #[.int .i64 x0, .int .i64 x1]) (.agg #[.int .i64 y0, .int .i64 y1]) = some (x0 == y0 && (x1 == y1 && true)) := by kernel_rfl
@[go_sem high] theorem be93 {a b : Operand} (x0 y0 : Int) (x1 y1 : Int) : binA Try.prog .eql 93 a b (.agg [.val (.int .i64 x0), .val (.int .i64 x1)]) (.agg [.val (.int .i64 y0), .val (.int .i64 y1)]) = some (.val (.bool (x0 == y0 && (x1 == y1 && true)))) := (bin_agg Try.underlying93 rfl rfl (eq93 ..)).1
@[go_sem high] theorem bq93 {a b : Operand} (x0 y0 : Int) (x1 y1 : Int) : binA Try.prog .neq 93 a b (.agg [.val (.int .i64 x0), .val (.int .i64 x1)]) (.agg [.val (.int .i64 y0), .val (.int .i64 y1)]) = some (.val (.bool (!((x0 == y0 && (x1 == y1 && true)))))) := (bin_agg Try.underlying93 rfl rfl (eq93 ..)).2
@[go_sem] theorem fo94_0 : fieldOff Try.prog 94 0 = some 0 := field_off Try.underlying94 rfl sz2 (by decide)
@[go_sem] theorem ft94_0 : fieldTO Try.prog 94 0 = some (2, 0) := field_to Try.underlying94 rfl
@[go_sem] theorem fo94_1 : fieldOff Try.prog 94 1 = some 1 := field_off Try.underlying94 rfl sz2 (by decide)
@[go_sem] theorem ft94_1 : fieldTO Try.prog 94 1 = some (2, 1) := field_to Try.underlying94 rfl
@[go_sem] theorem bd94 (ps : List (Nat × AV)) : buildA Try.prog 94 ps = (fillA (fun i => ([(0, 1), (1, 1)] : List (Nat × Nat))[i]?) [.val (.int .i64 0), .val (.int .i64 0)] ps).map .agg := build_of Try.underlying94 inf94 (by simp only [List.map_cons, List.map_nil, sz2, Option.map_some]) ps
@[go_sem] theorem eq94 (x0 y0 : Int) (x1 y1 : Int) : aggEq Try.prog 94 (.agg #[.int .i64 x0, .int .i64 x1]) (.agg #[.int .i64 y0, .int .i64 y1]) = some (x0 == y0 && (x1 == y1 && true)) := by kernel_rfl
@[go_sem high] theorem be94 {a b : Operand} (x0 y0 : Int) (x1 y1 : Int) : binA Try.prog .eql 94 a b (.agg [.val (.int .i64 x0), .val (.int .i64 x1)]) (.agg [.val (.int .i64 y0), .val (.int .i64 y1)]) = some (.val (.bool (x0 == y0 && (x1 == y1 && true)))) := (bin_agg Try.underlying94 rfl rfl (eq94 ..)).1
@[go_sem high] theorem bq94 {a b : Operand} (x0 y0 : Int) (x1 y1 : Int) : binA Try.prog .neq 94 a b (.agg [.val (.int .i64 x0), .val (.int .i64 x1)]) (.agg [.val (.int .i64 y0), .val (.int .i64 y1)]) = some (.val (.bool (!((x0 == y0 && (x1 == y1 && true)))))) := (bin_agg Try.underlying94 rfl rfl (eq94 ..)).2
@[go_sem] theorem el101 : elemA Try.prog 101 = .sl 104 4 := elem_of Try.underlying101 sz104
@[go_sem] theorem ap101 (s x : AV) (H : Hp) : appendA Try.prog 101 101 s x H = appendB 104 4 32 s x H := append_of Try.underlying101 inf104 rfl (by decide) (by decide) s x H
@[go_sem] theorem mk101 (n : Int) : makeA Try.prog 101 n = if 0 ≤ n ∧ (32 : Nat) * n ≤ 281474976710656 ∧ n ≤ 9223372036854775807 then some (List.replicate n.toNat [.val (.int .u16 0), .val (.int .u16 0), .val (.bool false), .val (.slice none 0 0)], 104) else none := make_of Try.underlying101 inf104 rfl (by decide) n
@[go_sem] theorem lit101 (len : Nat) (ps : List (Nat × AV)) : litA Try.prog 101 len ps = if len * 4 ≤ 16777216 then (fillE 4 (List.replicate len [.val (.int .u16 0), .val (.int .u16 0), .val (.bool false), .val (.slice none 0 0)]) ps).map fun es => (es, 104) else none := lit_of Try.underlying101 inf104 rfl (by decide) len ps
@[go_sem] theorem sl101 (x : AV) (lo hi mx : Option AV) : sliceA Try.prog 101 x lo hi mx = sliceB 4 x lo hi mx := slice_of Try.underlying101 sz104 x lo hi mx
@[go_sem] theorem el102 : elemA Try.prog 102 = .sl 4 1 := elem_of Try.underlying102 sz4
@[go_sem] theorem ap102 (s x : AV) (H : Hp) : appendA Try.prog 102 102 s x H = appendB 4 1 1 s x H := append_of Try.underlying102 inf4 rfl (by decide) (by decide) s x H
@[go_sem] theorem mk102 (n : Int) : makeA Try.prog 102 n = if 0 ≤ n ∧ (1 : Nat) * n ≤ 281474976710656 ∧ n ≤ 9223372036854775807 then some (List.replicate n.toNat [.val (.bool false)], 4) else none := make_of Try.underlying102 inf4 rfl (by decide) n
@[go_sem] theorem lit102 (len : Nat) (ps : List (Nat × AV)) : litA Try.prog 102 len ps = if len * 1 ≤ 16777216 then (fillE 1 (List.replicate len [.val (.bool false)]) ps).map fun es => (es, 4) else none := lit_of Try.underlying102 inf4 rfl (by decide) len ps
@[go_sem] theorem sl102 (x : AV) (lo hi mx : Option AV) : sliceA Try.prog 102 x lo hi mx = sliceB 1 x lo hi mx := slice_of Try.underlying102 sz4 x lo hi mx
@[go_sem] theorem fo103_0 : fieldOff Try.prog 103 0 = some 0 := field_off Try.underlying103 rfl sz38 (by decide)
@[go_sem] theorem ft103_0 : fieldTO Try.prog 103 0 = some (38, 0) := field_to Try.underlying103 rfl
@[go_sem] theorem fo103_1 : fieldOff Try.prog 103 1 = some 1 := field_off Try.underlying103 rfl sz38 (by decide)
@[go_sem] theorem ft103_1 : fieldTO Try.prog 103 1 = some (38, 1) := field_to Try.underlying103 rfl
@[go_sem] theorem fo103_2 : fieldOff Try.prog 103 2 = some 2 := field_off Try.underlying103 rfl sz4 (by decide)
@[go_sem] theorem ft103_2 : fieldTO Try.prog 103 2 = some (4, 2) := field_to Try.underlying103 rfl
@[go_sem] theorem fo103_3 : fieldOff Try.prog 103 3 = some 3 := field_off Try.underlying103 rfl sz39 (by decide)
@[go_sem] theorem ft103_3 : fieldTO Try.prog 103 3 = some (39, 3) := field_to Try.underlying103 rfl
@[go_sem] theorem bd103 (ps : List (Nat × AV)) : buildA Try.prog 103 ps = (fillA (fun i => ([(0, 1), (1, 1), (2, 1), (3, 1)] : List (Nat × Nat))[i]?) [.val (.int .u16 0), .val (.int .u16 0), .val (.bool false), .val (.slice none 0 0)] ps).map .agg := build_of Try.underlying103 inf103 (by simp only [List.map_cons, List.map_nil, sz4, sz38, sz39, Option.map_some]) ps
@[go_sem] theorem fo104_0 : fieldOff Try.prog 104 0 = some 0 := field_off Try.underlying104 rfl sz38 (by decide)
@[go_sem] theorem ft104_0 : fieldTO Try.prog 104 0 = some (38, 0) := field_to Try.underlying104 rfl
@[go_sem] theorem fo104_1 : fieldOff Try.prog 104 1 = some 1 := field_off Try.underlying104 rfl sz38 (by decide)
@[go_sem] theorem ft104_1 : fieldTO Try.prog 104 1 = some (38, 1) := field_to Try.underlying104 rfl
@[go_sem] theorem fo104_2 : fieldOff Try.prog 104 2 = some 2 := field_off Try.underlying104 rfl sz4 (by decide)
@[go_sem] theorem ft104_2 : fieldTO Try.prog 104 2 = some (4, 2) := field_to Try.underlying104 rfl
@[go_sem] theorem fo104_3 : fieldOff Try.prog 104 3 = some 3 := field_off Try.underlying104 rfl sz39 (by decide)
@[go_sem] theorem ft104_3 : fieldTO Try.prog 104 3 = some (39, 3) := field_to Try.underlying104 rfl
@[go_sem] theorem bd104 (ps : List (Nat × AV)) : buildA Try.prog 104 ps = (fillA (fun i => ([(0, 1), (1, 1), (2, 1), (3, 1)] : List (Nat × Nat))[i]?) [.val (.int .u16 0), .val (.int .u16 0), .val (.bool false), .val (.slice none 0 0)] ps).map .agg := build_of Try.underlying104 inf104 (by simp only [List.map_cons, List.map_nil, sz4, sz38, sz39, Option.map_some]) ps
@[go_sem] theorem fo108_0 : fieldOff Try.prog 108 0 = some 0 := field_off Try.underlying108 rfl sz2 (by decide)
@[go_sem] theorem ft108_0 : fieldTO Try.prog 108 0 = some (2, 0) := field_to Try.underlying108 rfl
@[go_sem] theorem fo108_1 : fieldOff Try.prog 108 1 = some 1 := field_off Try.underlying108 rfl sz2 (by decide)
@[go_sem] theorem ft108_1 : fieldTO Try.prog 108 1 = some (2, 1) := field_to Try.underlying108 rfl
@[go_sem] theorem fo108_2 : fieldOff Try.prog 108 2 = some 2 := field_off Try.underlying108 rfl sz2 (by decide)
@[go_sem] theorem ft108_2 : fieldTO Try.prog 108 2 = some (2, 2) := field_to Try.underlying108 rfl
@[go_sem] theorem fo108_3 : fieldOff Try.prog 108 3 = some 3 := field_off Try.underlying108 rfl sz46 (by decide)
@[go_sem] theorem ft108_3 : fieldTO Try.prog 108 3 = some (46, 3) := field_to Try.underlying108 rfl
@[go_sem] theorem fo108_4 : fieldOff Try.prog 108 4 = some 4 := field_off Try.underlying108 rfl sz40 (by decide)
@[go_sem] theorem ft108_4 : fieldTO Try.prog 108 4 = some (40, 4) := field_to Try.underlying108 rfl
@[go_sem] theorem fo108_5 : fieldOff Try.prog 108 5 = some 5 := field_off Try.underlying108 rfl sz106 (by decide)
@[go_sem] theorem ft108_5 : fieldTO Try.prog 108 5 = some (106, 5) := field_to Try.underlying108 rfl
@[go_sem] theorem fo108_6 : fieldOff Try.prog 108 6 = some 6 := field_off Try.underlying108 rfl sz107 (by decide)
@[go_sem] theorem ft108_6 : fieldTO Try.prog 108 6 = some (107, 6) := field_to Try.underlying108 rfl
@[go_sem] theorem bd108 (ps : List (Nat × AV)) : buildA Try.prog 108 ps = (fillA (fun i => ([(0, 1), (1, 1), (2, 1), (3, 1), (4, 1), (5, 1), (6, 1)] : List (Nat × Nat))[i]?) [.val (.int .i64 0), .val (.int .i64 0), .val (.int .i64 0), .val (.slice none 0 0), .val (.map none), .val (.map none), .val (.map none)] ps).map .agg := build_of Try.underlying108 inf108 (by simp only [List.map_cons, List.map_nil, sz2, sz40, sz46, sz106, sz107, Option.map_some]) ps
@[go_sem] theorem fo109_0 : fieldOff Try.prog 109 0 = some 0 := field_off Try.underlying109 rfl sz2 (by decide)
@[go_sem] theorem ft109_0 : fieldTO Try.prog 109 0 = some (2, 0) := field_to Try.underlying109 rfl
@[go_sem] theorem fo109_1 : fieldOff Try.prog 109 1 = some 1 := field_off Try.underlying109 rfl sz2 (by decide)
@[go_sem] theorem ft109_1 : fieldTO Try.prog 109 1 = some (2, 1) := field_to Try.underlying109 rfl
@[go_sem] theorem fo109_2 : fieldOff Try.prog 109 2 = some 2 := field_off Try.underlying109 rfl sz2 (by decide)
@[go_sem] theorem ft109_2 : fieldTO Try.prog 109 2 = some (2, 2) := field_to Try.underlying109 rfl
@[go_sem] theorem fo109_3 : fieldOff Try.prog 109 3 = some 3 := field_off Try.underlying109 rfl sz46 (by decide)
@[go_sem] theorem ft109_3 : fieldTO Try.prog 109 3 = some (46, 3) := field_to Try.underlying109 rfl
@[go_sem] theorem fo109_4 : fieldOff Try.prog 109 4 = some 4 := field_off Try.underlying109 rfl sz40 (by decide)
@[go_sem] theorem ft109_4 : fieldTO Try.prog 109 4 = some (40, 4) := field_to Try.underlying109 rfl
@[go_sem] theorem fo109_5 : fieldOff Try.prog 109 5 = some 5 := field_off Try.underlying109 rfl sz106 (by decide)
@[go_sem] theorem ft109_5 : fieldTO Try.prog 109 5 = some (106, 5) := field_to Try.underlying109 rfl
@[go_sem] theorem fo109_6 : fieldOff Try.prog 109 6 = some 6 := field_off Try.underlying109 rfl sz107 (by decide)
@[go_sem] theorem ft109_6 : fieldTO Try.prog 109 6 = some (107, 6) := field_to Try.underlying109 rfl
@[go_sem] theorem bd109 (ps : List (Nat × AV)) : buildA Try.prog 109 ps = (fillA (fun i => ([(0, 1), (1, 1), (2, 1), (3, 1), (4, 1), (5, 1), (6, 1)] : List (Nat × Nat))[i]?) [.val (.int .i64 0), .val (.int .i64 0), .val (.int .i64 0), .val (.slice none 0 0), .val (.map none), .val (.map none), .val (.map none)] ps).map .agg := build_of Try.underlying109 inf109 (by simp only [List.map_cons, List.map_nil, sz2, sz40, sz46, sz106, sz107, Option.map_some]) ps
@[go_sem] theorem el110 : elemA Try.prog 110 = .sl 27 1 := elem_of Try.underlying110 sz27
@[go_sem] theorem ap110 (s x : AV) (H : Hp) : appendA Try.prog 110 110 s x H = appendB 27 1 8 s x H := append_of Try.underlying110 inf27 rfl (by decide) (by decide) s x H
@[go_sem] theorem mk110 (n : Int) : makeA Try.prog 110 n = if 0 ≤ n ∧ (8 : Nat) * n ≤ 281474976710656 ∧ n ≤ 9223372036854775807 then some (List.replicate n.toNat [.val (.pointer none)], 27) else none := make_of Try.underlying110 inf27 rfl (by decide) n
@[go_sem] theorem lit110 (len : Nat) (ps : List (Nat × AV)) : litA Try.prog 110 len ps = if len * 1 ≤ 16777216 then (fillE 1 (List.replicate len [.val (.pointer none)]) ps).map fun es => (es, 27) else none := lit_of Try.underlying110 inf27 rfl (by decide) len ps
@[go_sem] theorem sl110 (x : AV) (lo hi mx : Option AV) : sliceA Try.prog 110 x lo hi mx = sliceB 1 x lo hi mx := slice_of Try.underlying110 sz27 x lo hi mx
@[go_sem] theorem fo111_0 : fieldOff Try.prog 111 0 = some 0 := field_off Try.underlying111 rfl sz40 (by decide)
@[go_sem] theorem ft111_0 : fieldTO Try.prog 111 0 = some (40, 0) := field_to Try.underlying111 rfl
@[go_sem] theorem bd111 (ps : List (Nat × AV)) : buildA Try.prog 111 ps = (fillA (fun i => ([(0, 1)] : List (Nat × Nat))[i]?) [.val (.map none)] ps).map .agg := build_of Try.underlying111 inf111 (by simp only [List.map_cons, List.map_nil, sz40, Option.map_some]) ps
@[go_sem] theorem fo112_0 : fieldOff Try.prog 112 0 = some 0 := field_off Try.underlying112 rfl sz40 (by decide)
@[go_sem] theorem ft112_0 : fieldTO Try.prog 112 0 = some (40, 0) := field_to Try.underlying112 rfl
@[go_sem] theorem bd112 (ps : List (Nat × AV)) : buildA Try.prog 112 ps = (fillA (fun i => ([(0, 1)] : List (Nat × Nat))[i]?) [.val (.map none)] ps).map .agg := build_of Try.underlying112 inf112 (by simp only [List.map_cons, List.map_nil, sz40, Option.map_some]) ps
@[go_sem] theorem el113 : elemA Try.prog 113 = .sl 76 1 := elem_of Try.underlying113 sz76
@[go_sem] theorem ap113 (s x : AV) (H : Hp) : appendA Try.prog 113 113 s x H = appendB 76 1 8 s x H := append_of Try.underlying113 inf76 rfl (by decide) (by decide) s x H
@[go_sem] theorem mk113 (n : Int) : makeA Try.prog 113 n = if 0 ≤ n ∧ (8 : Nat) * n ≤ 281474976710656 ∧ n ≤ 9223372036854775807 then some (List.replicate n.toNat [.val (.pointer none)], 76) else none := make_of Try.underlying113 inf76 rfl (by decide) n
@[go_sem] theorem lit113 (len : Nat) (ps : List (Nat × AV)) : litA Try.prog 113 len ps = if len * 1 ≤ 16777216 then (fillE 1 (List.replicate len [.val (.pointer none)]) ps).map fun es => (es, 76) else none := lit_of Try.underlying113 inf76 rfl (by decide) len ps
@[go_sem] theorem sl113 (x : AV) (lo hi mx : Option AV) : sliceA Try.prog 113 x lo hi mx = sliceB 1 x lo hi mx := slice_of Try.underlying113 sz76 x lo hi mx
@[go_sem] theorem el141 : elemA Try.prog 141 = .sl 145 3 := elem_of Try.underlying141 sz145
@[go_sem] theorem ap141 (s x : AV) (H : Hp) : appendA Try.prog 141 141 s x H = appendB 145 3 24 s x H := append_of Try.underlying141 inf145 rfl (by decide) (by decide) s x H
@[go_sem] theorem mk141 (n : Int) : makeA Try.prog 141 n = if 0 ≤ n ∧ (24 : Nat) * n ≤ 281474976710656 ∧ n ≤ 9223372036854775807 then some (List.replicate n.toNat [.val (.int .u32 0), .val (.int .i64 0), .val (.int .i64 0)], 145) else none := make_of Try.underlying141 inf145 rfl (by decide) n
@[go_sem] theorem lit141 (len : Nat) (ps : List (Nat × AV)) : litA Try.prog 141 len ps = if len * 3 ≤ 16777216 then (fillE 3 (List.replicate len [.val (.int .u32 0), .val (.int .i64 0), .val (.int .i64 0)]) ps).map fun es => (es, 145) else none := lit_of Try.underlying141 inf145 rfl (by decide) len ps
@[go_sem] theorem sl141 (x : AV) (lo hi mx : Option AV) : sliceA Try.prog 141 x lo hi mx = sliceB 3 x lo hi mx := slice_of Try.underlying141 sz145 x lo hi mx
@[go_sem] theorem fo144_0 : fieldOff Try.prog 144 0 = some 0 := field_off Try.underlying144 rfl sz91 (by decide)
@[go_sem] theorem ft144_0 : fieldTO Try.prog 144 0 = some (91, 0) := field_to Try.underlying144 rfl
@[go_sem] theorem fo144_1 : fieldOff Try.prog 144 1 = some 1 := field_off Try.underlying144 rfl sz2 (by decide)
@[go_sem] theorem ft144_1 : fieldTO Try.prog 144 1 = some (2, 1) := field_to Try.underlying144 rfl
@[go_sem] theorem fo144_2 : fieldOff Try.prog 144 2 = some 2 := field_off Try.underlying144 rfl sz2 (by decide)
@[go_sem] theorem ft144_2 : fieldTO Try.prog 144 2 = some (2, 2) := field_to Try.underlying144 rfl
@[go_sem] theorem bd144 (ps : List (Nat × AV)) : buildA Try.prog 144 ps = (fillA (fun i => ([(0, 1), (1, 1), (2, 1)] : List (Nat × Nat))[i]?) [.val (.int .u32 0), .val (.int .i64 0), .val (.int .i64 0)] ps).map .agg := build_of Try.underlying144 inf144 (by simp only [List.map_cons, List.map_nil, sz2, sz91, Option.map_some]) ps
@[go_sem] theorem eq144 (x0 y0 : Int) (x1 y1 : Int) (x2 y2 : Int) : aggEq Try.prog 144 (.agg #[.int .u32 x0, .int .i64 x1, .int .i64 x2]) (.agg #[.int .u32 y0, .int .i64 y1, .int .i64 y2]) = some (x0 == y0 && (x1 == y1 && (x2 == y2 && true))) := by kernel_rfl
@[go_sem high] theorem be144 {a b : Operand} (x0 y0 : Int) (x1 y1 : Int) (x2 y2 : Int) : binA Try.prog .eql 144 a b (.agg [.val (.int .u32 x0), .val (.int .i64 x1), .val (.int .i64 x2)]) (.agg [.val (.int .u32 y0), .val (.int .i64 y1), .val (.int .i64 y2)]) = some (.val (.bool (x0 == y0 && (x1 == y1 && (x2 == y2 && true))))) := (bin_agg Try.underlying144 rfl rfl (eq144 ..)).1
@[go_sem high] theorem bq144 {a b : Operand} (x0 y0 : Int) (x1 y1 : Int) (x2 y2 : Int) : binA Try.prog .neq 144 a b (.agg [.val (.int .u32 x0), .val (.int .i64 x1), .val (.int .i64 x2)]) (.agg [.val (.int .u32 y0), .val (.int .i64 y1), .val (.int .i64 y2)]) = some (.val (.bool (!((x0 == y0 && (x1 == y1 && (x2 == y2 && true))))))) := (bin_agg Try.underlying144 rfl rfl (eq144 ..)).2
@[go_sem] theorem fo145_0 : fieldOff Try.prog 145 0 = some 0 := field_off Try.underlying145 rfl sz91 (by decide)
@[go_sem] theorem ft145_0 : fieldTO Try.prog 145 0 = some (91, 0) := field_to Try.underlying145 rfl
@[go_sem] theorem fo145_1 : fieldOff Try.prog 145 1 = some 1 := field_off Try.underlying145 rfl sz2 (by decide)
@[go_sem] theorem ft145_1 : fieldTO Try.prog 145 1 = some (2, 1) := field_to Try.underlying145 rfl
@[go_sem] theorem fo145_2 : fieldOff Try.prog 145 2 = some 2 := field_off Try.underlying145 rfl sz2 (by decide)
@[go_sem] theorem ft145_2 : fieldTO Try.prog 145 2 = some (2, 2) := field_to Try.underlying145 rfl
@[go_sem] theorem bd145 (ps : List (Nat × AV)) : buildA Try.prog 145 ps = (fillA (fun i => ([(0, 1), (1, 1), (2, 1)] : List (Nat × Nat))[i]?) [.val (.int .u32 0), .val (.int .i64 0), .val (.int .i64 0)] ps).map .agg := build_of Try.underlying145 inf145 (by simp only [List.map_cons, List.map_nil, sz2, sz91, Option.map_some]) ps
@[go_sem] theorem eq145 (x0 y0 : Int) (x1 y1 : Int) (x2 y2 : Int) : aggEq Try.prog 145 (.agg #[.int .u32 x0, .int .i64 x1, .int .i64 x2]) (.agg #[.int .u32 y0, .int .i64 y1, .int .i64 y2]) = some (x0 == y0 && (x1 == y1 && (x2 == y2 && true))) := by kernel_rfl
@[go_sem high] theorem be145 {a b : Operand} (x0 y0 : Int) (x1 y1 : Int) (x2 y2 : Int) : binA Try.prog .eql 145 a b (.agg [.val (.int .u32 x0), .val (.int .i64 x1), .val (.int .i64 x2)]) (.agg [.val (.int .u32 y0), .val (.int .i64 y1), .val (.int .i64 y2)]) = some (.val (.bool (x0 == y0 && (x1 == y1 && (x2 == y2 && true))))) := (bin_agg Try.underlying145 rfl rfl (eq145 ..)).1
@[go_sem high] theorem bq145 {a b : Operand} (x0 y0 : Int) (x1 y1 : Int) (x2 y2 : Int) : binA Try.prog .neq 145 a b (.agg [.val (.int .u32 x0), .val (.int .i64 x1), .val (.int .i64 x2)]) (.agg [.val (.int .u32 y0), .val (.int .i64 y1), .val (.int .i64 y2)]) = some (.val (.bool (!((x0 == y0 && (x1 == y1 && (x2 == y2 && true))))))) := (bin_agg Try.underlying145 rfl rfl (eq145 ..)).2
@[go_sem] theorem fo152_0 : fieldOff Try.prog 152 0 = some 0 := field_off Try.underlying152 rfl sz86 (by decide)
@[go_sem] theorem ft152_0 : fieldTO Try.prog 152 0 = some (86, 0) := field_to Try.underlying152 rfl
@[go_sem] theorem fo152_1 : fieldOff Try.prog 152 1 = some 1 := field_off Try.underlying152 rfl sz2 (by decide)
@[go_sem] theorem ft152_1 : fieldTO Try.prog 152 1 = some (2, 1) := field_to Try.underlying152 rfl
@[go_sem] theorem fo152_2 : fieldOff Try.prog 152 2 = some 2 := field_off Try.underlying152 rfl sz2 (by decide)
@[go_sem] theorem ft152_2 : fieldTO Try.prog 152 2 = some (2, 2) := field_to Try.underlying152 rfl
@[go_sem] theorem bd152 (ps : List (Nat × AV)) : buildA Try.prog 152 ps = (fillA (fun i => ([(0, 1), (1, 1), (2, 1)] : List (Nat × Nat))[i]?) [.val (.slice none 0 0), .val (.int .i64 0), .val (.int .i64 0)] ps).map .agg := build_of Try.underlying152 inf152 (by simp only [List.map_cons, List.map_nil, sz2, sz86, Option.map_some]) ps
@[go_sem] theorem fo153_0 : fieldOff Try.prog 153 0 = some 0 := field_off Try.underlying153 rfl sz86 (by decide)
@[go_sem] theorem ft153_0 : fieldTO Try.prog 153 0 = some (86, 0) := field_to Try.underlying153 rfl
@[go_sem] theorem fo153_1 : fieldOff Try.prog 153 1 = some 1 := field_off Try.underlying153 rfl sz2 (by decide)
@[go_sem] theorem ft153_1 : fieldTO Try.prog 153 1 = some (2, 1) := field_to Try.underlying153 rfl
@[go_sem] theorem fo153_2 : fieldOff Try.prog 153 2 = some 2 := field_off Try.underlying153 rfl sz2 (by decide)
@[go_sem] theorem ft153_2 : fieldTO Try.prog 153 2 = some (2, 2) := field_to Try.underlying153 rfl
@[go_sem] theorem bd153 (ps : List (Nat × AV)) : buildA Try.prog 153 ps = (fillA (fun i => ([(0, 1), (1, 1), (2, 1)] : List (Nat × Nat))[i]?) [.val (.slice none 0 0), .val (.int .i64 0), .val (.int .i64 0)] ps).map .agg := build_of Try.underlying153 inf153 (by simp only [List.map_cons, List.map_nil, sz2, sz86, Option.map_some]) ps
@[go_sem] theorem el155 : elemA Try.prog 155 = .ar 2 5 1 := elem_arr Try.underlying155 sz5 (by decide)
@[go_sem] theorem el159 : elemA Try.prog 159 = .sl 24 1 := elem_of Try.underlying159 sz24
@[go_sem] theorem ap159 (s x : AV) (H : Hp) : appendA Try.prog 159 159 s x H = appendB 24 1 8 s x H := append_of Try.underlying159 inf24 rfl (by decide) (by decide) s x H
@[go_sem] theorem mk159 (n : Int) : makeA Try.prog 159 n = if 0 ≤ n ∧ (8 : Nat) * n ≤ 281474976710656 ∧ n ≤ 9223372036854775807 then some (List.replicate n.toNat [.val (.int .i64 0)], 24) else none := make_of Try.underlying159 inf24 rfl (by decide) n
@[go_sem] theorem lit159 (len : Nat) (ps : List (Nat × AV)) : litA Try.prog 159 len ps = if len * 1 ≤ 16777216 then (fillE 1 (List.replicate len [.val (.int .i64 0)]) ps).map fun es => (es, 24) else none := lit_of Try.underlying159 inf24 rfl (by decide) len ps
@[go_sem] theorem sl159 (x : AV) (lo hi mx : Option AV) : sliceA Try.prog 159 x lo hi mx = sliceB 1 x lo hi mx := slice_of Try.underlying159 sz24 x lo hi mx
@[go_sem] theorem fo212_0 : fieldOff Try.prog 212 0 = some 0 := field_off Try.underlying212 rfl sz17 (by decide)
@[go_sem] theorem ft212_0 : fieldTO Try.prog 212 0 = some (17, 0) := field_to Try.underlying212 rfl
@[go_sem] theorem fo212_1 : fieldOff Try.prog 212 1 = some 1 := field_off Try.underlying212 rfl sz17 (by decide)
@[go_sem] theorem ft212_1 : fieldTO Try.prog 212 1 = some (17, 1) := field_to Try.underlying212 rfl
@[go_sem] theorem fo212_2 : fieldOff Try.prog 212 2 = some 2 := field_off Try.underlying212 rfl sz17 (by decide)
@[go_sem] theorem ft212_2 : fieldTO Try.prog 212 2 = some (17, 2) := field_to Try.underlying212 rfl
@[go_sem] theorem fo212_3 : fieldOff Try.prog 212 3 = some 3 := field_off Try.underlying212 rfl sz9 (by decide)
@[go_sem] theorem ft212_3 : fieldTO Try.prog 212 3 = some (9, 3) := field_to Try.underlying212 rfl
@[go_sem] theorem bd212 (ps : List (Nat × AV)) : buildA Try.prog 212 ps = (fillA (fun i => ([(0, 1), (1, 1), (2, 1), (3, 1)] : List (Nat × Nat))[i]?) [.val (.pointer none), .val (.pointer none), .val (.pointer none), .val (.string ⟨#[]⟩)] ps).map .agg := build_of Try.underlying212 inf212 (by simp only [List.map_cons, List.map_nil, sz9, sz17, Option.map_some]) ps
@[go_sem] theorem fo213_0 : fieldOff Try.prog 213 0 = some 0 := field_off Try.underlying213 rfl sz17 (by decide)
@[go_sem] theorem ft213_0 : fieldTO Try.prog 213 0 = some (17, 0) := field_to Try.underlying213 rfl
@[go_sem] theorem fo213_1 : fieldOff Try.prog 213 1 = some 1 := field_off Try.underlying213 rfl sz17 (by decide)
@[go_sem] theorem ft213_1 : fieldTO Try.prog 213 1 = some (17, 1) := field_to Try.underlying213 rfl
@[go_sem] theorem fo213_2 : fieldOff Try.prog 213 2 = some 2 := field_off Try.underlying213 rfl sz17 (by decide)
@[go_sem] theorem ft213_2 : fieldTO Try.prog 213 2 = some (17, 2) := field_to Try.underlying213 rfl
@[go_sem] theorem fo213_3 : fieldOff Try.prog 213 3 = some 3 := field_off Try.underlying213 rfl sz9 (by decide)
@[go_sem] theorem ft213_3 : fieldTO Try.prog 213 3 = some (9, 3) := field_to Try.underlying213 rfl
@[go_sem] theorem bd213 (ps : List (Nat × AV)) : buildA Try.prog 213 ps = (fillA (fun i => ([(0, 1), (1, 1), (2, 1), (3, 1)] : List (Nat × Nat))[i]?) [.val (.pointer none), .val (.pointer none), .val (.pointer none), .val (.string ⟨#[]⟩)] ps).map .agg := build_of Try.underlying213 inf213 (by simp only [List.map_cons, List.map_nil, sz9, sz17, Option.map_some]) ps
@[go_sem] theorem ft215_0 : fieldTO Try.prog 215 0 = some (214, 0) := field_to Try.underlying215 rfl
@[go_sem] theorem bd215 (ps : List (Nat × AV)) : buildA Try.prog 215 ps = (fillA (fun i => ([(0, 0)] : List (Nat × Nat))[i]?) [] ps).map .agg := build_of Try.underlying215 inf215 (by simp only [List.map_cons, List.map_nil, sz214, Option.map_some]) ps
@[go_sem] theorem ft216_0 : fieldTO Try.prog 216 0 = some (214, 0) := field_to Try.underlying216 rfl
@[go_sem] theorem bd216 (ps : List (Nat × AV)) : buildA Try.prog 216 ps = (fillA (fun i => ([(0, 0)] : List (Nat × Nat))[i]?) [] ps).map .agg := build_of Try.underlying216 inf216 (by simp only [List.map_cons, List.map_nil, sz214, Option.map_some]) ps
@[go_sem] theorem fo223_0 : fieldOff Try.prog 223 0 = some 0 := field_off Try.underlying223 rfl sz12 (by decide)
@[go_sem] theorem ft223_0 : fieldTO Try.prog 223 0 = some (12, 0) := field_to Try.underlying223 rfl
@[go_sem] theorem fo223_1 : fieldOff Try.prog 223 1 = some 1 := field_off Try.underlying223 rfl sz12 (by decide)
@[go_sem] theorem ft223_1 : fieldTO Try.prog 223 1 = some (12, 1) := field_to Try.underlying223 rfl
@[go_sem] theorem fo223_2 : fieldOff Try.prog 223 2 = some 2 := field_off Try.underlying223 rfl sz91 (by decide)
@[go_sem] theorem ft223_2 : fieldTO Try.prog 223 2 = some (91, 2) := field_to Try.underlying223 rfl
@[go_sem] theorem fo223_3 : fieldOff Try.prog 223 3 = some 3 := field_off Try.underlying223 rfl sz217 (by decide)
@[go_sem] theorem ft223_3 : fieldTO Try.prog 223 3 = some (217, 3) := field_to Try.underlying223 rfl
@[go_sem] theorem fo223_4 : fieldOff Try.prog 223 4 = some 4 := field_off Try.underlying223 rfl sz5 (by decide)
@[go_sem] theorem ft223_4 : fieldTO Try.prog 223 4 = some (5, 4) := field_to Try.underlying223 rfl
@[go_sem] theorem fo223_5 : fieldOff Try.prog 223 5 = some 5 := field_off Try.underlying223 rfl sz5 (by decide)
@[go_sem] theorem ft223_5 : fieldTO Try.prog 223 5 = some (5, 5) := field_to Try.underlying223 rfl
@[go_sem] theorem fo223_6 : fieldOff Try.prog 223 6 = some 6 := field_off Try.underlying223 rfl sz218 (by decide)
@[go_sem] theorem ft223_6 : fieldTO Try.prog 223 6 = some (218, 6) := field_to Try.underlying223 rfl
@[go_sem] theorem fo223_7 : fieldOff Try.prog 223 7 = some 7 := field_off Try.underlying223 rfl sz219 (by decide)
@[go_sem] theorem ft223_7 : fieldTO Try.prog 223 7 = some (219, 7) := field_to Try.underlying223 rfl
@[go_sem] theorem fo223_8 : fieldOff Try.prog 223 8 = some 8 := field_off Try.underlying223 rfl sz220 (by decide)
@[go_sem] theorem ft223_8 : fieldTO Try.prog 223 8 = some (220, 8) := field_to Try.underlying223 rfl
@[go_sem] theorem fo223_9 : fieldOff Try.prog 223 9 = some 9 := field_off Try.underlying223 rfl sz221 (by decide)
@[go_sem] theorem ft223_9 : fieldTO Try.prog 223 9 = some (221, 9) := field_to Try.underlying223 rfl
@[go_sem] theorem fo223_10 : fieldOff Try.prog 223 10 = some 10 := field_off Try.underlying223 rfl sz222 (by decide)
@[go_sem] theorem ft223_10 : fieldTO Try.prog 223 10 = some (222, 10) := field_to Try.underlying223 rfl
@[go_sem] theorem bd223 (ps : List (Nat × AV)) : buildA Try.prog 223 ps = (fillA (fun i => ([(0, 1), (1, 1), (2, 1), (3, 1), (4, 1), (5, 1), (6, 1), (7, 1), (8, 1), (9, 1), (10, 1)] : List (Nat × Nat))[i]?) [.val (.int .u64 0), .val (.int .u64 0), .val (.int .u32 0), .val (.int .u8 0), .val (.int .u8 0), .val (.int .u8 0), .val (.int .u8 0), .val (.nilFunc), .val (.pointer none), .val (.int .i32 0), .val (.int .i32 0)] ps).map .agg := build_of Try.underlying223 inf223 (by simp only [List.map_cons, List.map_nil, sz5, sz12, sz91, sz217, sz218, sz219, sz220, sz221, sz222, Option.map_some]) ps
@[go_sem] theorem fo224_0 : fieldOff Try.prog 224 0 = some 0 := field_off Try.underlying224 rfl sz12 (by decide)
@[go_sem] theorem ft224_0 : fieldTO Try.prog 224 0 = some (12, 0) := field_to Try.underlying224 rfl
@[go_sem] theorem fo224_1 : fieldOff Try.prog 224 1 = some 1 := field_off Try.underlying224 rfl sz12 (by decide)
@[go_sem] theorem ft224_1 : fieldTO Try.prog 224 1 = some (12, 1) := field_to Try.underlying224 rfl
@[go_sem] theorem fo224_2 : fieldOff Try.prog 224 2 = some 2 := field_off Try.underlying224 rfl sz91 (by decide)
@[go_sem] theorem ft224_2 : fieldTO Try.prog 224 2 = some (91, 2) := field_to Try.underlying224 rfl
@[go_sem] theorem fo224_3 : fieldOff Try.prog 224 3 = some 3 := field_off Try.underlying224 rfl sz217 (by decide)
@[go_sem] theorem ft224_3 : fieldTO Try.prog 224 3 = some (217, 3) := field_to Try.underlying224 rfl
@[go_sem] theorem fo224_4 : fieldOff Try.prog 224 4 = some 4 := field_off Try.underlying224 rfl sz5 (by decide)
@[go_sem] theorem ft224_4 : fieldTO Try.prog 224 4 = some (5, 4) := field_to Try.underlying224 rfl
@[go_sem] theorem fo224_5 : fieldOff Try.prog 224 5 = some 5 := field_off Try.underlying224 rfl sz5 (by decide)
@[go_sem] theorem ft224_5 : fieldTO Try.prog 224 5 = some (5, 5) := field_to Try.underlying224 rfl
@[go_sem] theorem fo224_6 : fieldOff Try.prog 224 6 = some 6 := field_off Try.underlying224 rfl sz218 (by decide)
@[go_sem] theorem ft224_6 : fieldTO Try.prog 224 6 = some (218, 6) := field_to Try.underlying224 rfl
@[go_sem] theorem fo224_7 : fieldOff Try.prog 224 7 = some 7 := field_off Try.underlying224 rfl sz219 (by decide)
@[go_sem] theorem ft224_7 : fieldTO Try.prog 224 7 = some (219, 7) := field_to Try.underlying224 rfl
@[go_sem] theorem fo224_8 : fieldOff Try.prog 224 8 = some 8 := field_off Try.underlying224 rfl sz220 (by decide)
@[go_sem] theorem ft224_8 : fieldTO Try.prog 224 8 = some (220, 8) := field_to Try.underlying224 rfl
@[go_sem] theorem fo224_9 : fieldOff Try.prog 224 9 = some 9 := field_off Try.underlying224 rfl sz221 (by decide)
@[go_sem] theorem ft224_9 : fieldTO Try.prog 224 9 = some (221, 9) := field_to Try.underlying224 rfl
@[go_sem] theorem fo224_10 : fieldOff Try.prog 224 10 = some 10 := field_off Try.underlying224 rfl sz222 (by decide)
@[go_sem] theorem ft224_10 : fieldTO Try.prog 224 10 = some (222, 10) := field_to Try.underlying224 rfl
@[go_sem] theorem bd224 (ps : List (Nat × AV)) : buildA Try.prog 224 ps = (fillA (fun i => ([(0, 1), (1, 1), (2, 1), (3, 1), (4, 1), (5, 1), (6, 1), (7, 1), (8, 1), (9, 1), (10, 1)] : List (Nat × Nat))[i]?) [.val (.int .u64 0), .val (.int .u64 0), .val (.int .u32 0), .val (.int .u8 0), .val (.int .u8 0), .val (.int .u8 0), .val (.int .u8 0), .val (.nilFunc), .val (.pointer none), .val (.int .i32 0), .val (.int .i32 0)] ps).map .agg := build_of Try.underlying224 inf224 (by simp only [List.map_cons, List.map_nil, sz5, sz12, sz91, sz217, sz218, sz219, sz220, sz221, sz222, Option.map_some]) ps

end Go.Proofs.Ytlhchnnfgppneaa.Ab
