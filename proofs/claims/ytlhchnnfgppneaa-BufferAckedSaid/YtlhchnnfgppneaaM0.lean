/- What the library's functions behind slices.Sorted(maps.Keys(m)) are in this program (integer keys). -/
import Derived.Shelf.SlIterI.Sorted
import Derived.Shelf.SortM.Plain
import Derived.Shelf.SortM.SortNone
import Derived.Test.YtlhchnnfgppneaaProg
namespace Go.Proofs.Ytlhchnnfgppneaa.Ab
open Go Go.RowKit Go.Proofs Go.Maps Go.Sort Go.Shelf

def keys_ren : Go.Shelf.Ren := ⟨fun | 10 => 105 | n => n, fun | 33 => 129 | 23 => 40 | 0 => 0 | 4 => 4 | 26 => 2 | 3 => 23 | n => n, fun n => n⟩
theorem keys_lay : SlLaysZI.n10 Try.prog keys_ren where
  mixed := by kernel_rfl
  f10 := ⟨"maps.Keys[map[int64]isobath/api.Record,int64,isobath/api.Record]$1", by decide, Try.func105.trans (congrArg some (by kernel_rfl))⟩
  t0 := Try.underlying0
  a0 := Try.isAgg0
  z0 := Try.sizeOf0
  v0 := Try.zeroValue0
  t4 := Try.underlying4
  a4 := Try.isAgg4
  z4 := Try.sizeOf4
  v4 := Try.zeroValue4
  t23 := Try.underlying40
  a23 := Try.isAgg40
  z23 := Try.sizeOf40
  v23 := Try.zeroValue40
  t26 := Try.underlying2
  a26 := Try.isAgg2
  z26 := Try.sizeOf2
  v26 := Try.zeroValue2
  t33 := Try.underlying129
  a33 := Try.isAgg129
  z33 := Try.sizeOf129
  v33 := Try.zeroValue129

def sorted_ren : Go.Shelf.Ren := ⟨fun | 6 => 76 | 8 => 103 | 9 => 104 | 11 => 116 | 13 => 109 | 12 => 117 | 23 => 126 | 24 => 127 | 14 => 130 | 15 => 131 | 16 => 132 | 17 => 133 | 18 => 134 | 19 => 135 | 20 => 136 | 21 => 137 | 22 => 138 | 25 => 144 | 26 => 140 | 27 => 141 | 28 => 145 | 29 => 146 | 30 => 110 | 31 => 148 | n => n, fun | 26 => 2 | 28 => 124 | 24 => 46 | 0 => 0 | 3 => 3 | 37 => 174 | 48 => 91 | 50 => 191 | 4 => 4 | 40 => 183 | 39 => 182 | 45 => 187 | 5 => 5 | 9 => 9 | 51 => 199 | 55 => 203 | 57 => 207 | 58 => 208 | 33 => 129 | n => n, fun n => n⟩
theorem sorted_lay : SlLaysZI.n6 Try.prog sorted_ren where
  mixed := by kernel_rfl
  f6 := ⟨"slices.Sorted[int64]", by decide, Try.func76.trans (congrArg some (by kernel_rfl))⟩
  f8 := ⟨"slices.Collect[int64]", by decide, Try.func103.trans (congrArg some (by kernel_rfl))⟩
  f11 := ⟨"slices.AppendSeq[[]int64,int64]", by decide, Try.func116.trans (congrArg some (by kernel_rfl))⟩
  t0 := Try.underlying0
  a0 := Try.isAgg0
  z0 := Try.sizeOf0
  v0 := Try.zeroValue0
  t24 := Try.underlying46
  a24 := Try.isAgg46
  z24 := Try.sizeOf46
  v24 := Try.zeroValue46
  t26 := Try.underlying2
  a26 := Try.isAgg2
  z26 := Try.sizeOf2
  v26 := Try.zeroValue2
  t28 := Try.underlying124
  a28 := Try.isAgg124
  z28 := Try.sizeOf124
  v28 := Try.zeroValue124
  i26 := by kernel_rfl

def sort_ren : Go.Shelf.Ren := ⟨fun | 5 => 104 | 8 => 109 | 7 => 117 | 19 => 126 | 20 => 127 | 10 => 130 | 11 => 131 | 12 => 132 | 13 => 133 | 14 => 134 | 15 => 135 | 16 => 136 | 17 => 137 | 18 => 138 | 30 => 144 | 31 => 140 | 32 => 141 | 33 => 145 | 34 => 146 | 35 => 110 | 40 => 148 | n => n, fun | 23 => 46 | 25 => 2 | 3 => 3 | 32 => 174 | 22 => 46 | 0 => 0 | 44 => 91 | 46 => 191 | 4 => 4 | 36 => 183 | 35 => 182 | 41 => 187 | 5 => 5 | 9 => 9 | 53 => 199 | 57 => 203 | 63 => 207 | 64 => 208 | n => n, fun n => n⟩
theorem sort_lay : SlLaysM.n5 Try.prog sort_ren where
  mixed := by kernel_rfl
  f5 := ⟨"slices.Sort[[]int64,int64]", by decide, Try.func104.trans (congrArg some (by kernel_rfl))⟩
  f7 := ⟨"slices.pdqsortOrdered[int64]", by decide, Try.func117.trans (congrArg some (by kernel_rfl))⟩
  f8 := Try.func109.trans (congrArg some (by kernel_rfl))
  f10 := ⟨"slices.insertionSortOrdered[int64]", by decide, Try.func130.trans (congrArg some (by kernel_rfl))⟩
  f11 := ⟨"slices.heapSortOrdered[int64]", by decide, Try.func131.trans (congrArg some (by kernel_rfl))⟩
  f12 := ⟨"slices.breakPatternsOrdered[int64]", by decide, Try.func132.trans (congrArg some (by kernel_rfl))⟩
  f13 := ⟨"slices.choosePivotOrdered[int64]", by decide, Try.func133.trans (congrArg some (by kernel_rfl))⟩
  f14 := ⟨"slices.reverseRangeOrdered[int64]", by decide, Try.func134.trans (congrArg some (by kernel_rfl))⟩
  f15 := ⟨"slices.partialInsertionSortOrdered[int64]", by decide, Try.func135.trans (congrArg some (by kernel_rfl))⟩
  f16 := ⟨"cmp.Less[int64]", by decide, Try.func136.trans (congrArg some (by kernel_rfl))⟩
  f17 := ⟨"slices.partitionEqualOrdered[int64]", by decide, Try.func137.trans (congrArg some (by kernel_rfl))⟩
  f18 := ⟨"slices.partitionOrdered[int64]", by decide, Try.func138.trans (congrArg some (by kernel_rfl))⟩
  f19 := Try.func126.trans (congrArg some (by kernel_rfl))
  f20 := Try.func127.trans (congrArg some (by kernel_rfl))
  f30 := ⟨"slices.siftDownOrdered[int64]", by decide, Try.func144.trans (congrArg some (by kernel_rfl))⟩
  f31 := Try.func140.trans (congrArg some (by kernel_rfl))
  f32 := Try.func141.trans (congrArg some (by kernel_rfl))
  f33 := ⟨"slices.medianAdjacentOrdered[int64]", by decide, Try.func145.trans (congrArg some (by kernel_rfl))⟩
  f34 := ⟨"slices.medianOrdered[int64]", by decide, Try.func146.trans (congrArg some (by kernel_rfl))⟩
  f35 := ⟨"cmp.isNaN[int64]", by decide, Try.func110.trans (congrArg some (by kernel_rfl))⟩
  f40 := ⟨"slices.order2Ordered[int64]", by decide, Try.func148.trans (congrArg some (by kernel_rfl))⟩
  t0 := Try.underlying0
  a0 := Try.isAgg0
  z0 := Try.sizeOf0
  v0 := Try.zeroValue0
  t3 := Try.underlying3
  a3 := Try.isAgg3
  z3 := Try.sizeOf3
  v3 := Try.zeroValue3
  t4 := Try.underlying4
  a4 := Try.isAgg4
  z4 := Try.sizeOf4
  v4 := Try.zeroValue4
  t5 := Try.underlying5
  a5 := Try.isAgg5
  z5 := Try.sizeOf5
  v5 := Try.zeroValue5
  t9 := Try.underlying9
  a9 := Try.isAgg9
  z9 := Try.sizeOf9
  v9 := Try.zeroValue9
  t22 := Try.underlying46
  a22 := Try.isAgg46
  z22 := Try.sizeOf46
  v22 := Try.zeroValue46
  t23 := Try.underlying46
  a23 := Try.isAgg46
  z23 := Try.sizeOf46
  v23 := Try.zeroValue46
  t25 := Try.underlying2
  a25 := Try.isAgg2
  z25 := Try.sizeOf2
  v25 := Try.zeroValue2
  t32 := Try.underlying174
  a32 := Try.isAgg174
  z32 := Try.sizeOf174
  v32 := Try.zeroValue174
  t35 := Try.underlying182
  a35 := Try.isAgg182
  z35 := Try.sizeOf182
  v35 := Try.zeroValue182
  t36 := Try.underlying183
  a36 := Try.isAgg183
  z36 := Try.sizeOf183
  v36 := Try.zeroValue183
  t41 := Try.underlying187
  a41 := Try.isAgg187
  z41 := Try.sizeOf187
  v41 := Try.zeroValue187
  t44 := Try.underlying91
  a44 := Try.isAgg91
  z44 := Try.sizeOf91
  v44 := Try.zeroValue91
  t46 := Try.underlying191
  a46 := Try.isAgg191
  z46 := Try.sizeOf191
  v46 := Try.zeroValue191
  t53 := Try.underlying199
  a53 := Try.isAgg199
  z53 := Try.sizeOf199
  v53 := Try.zeroValue199
  t57 := Try.underlying203
  a57 := Try.isAgg203
  z57 := Try.sizeOf203
  v57 := Try.zeroValue203
  t63 := Try.underlying207
  a63 := Try.isAgg207
  z63 := Try.sizeOf207
  v63 := Try.zeroValue207
  t64 := Try.underlying208
  a64 := Try.isAgg208
  z64 := Try.sizeOf208
  v64 := Try.zeroValue208

abbrev kS : FuncId := 76
abbrev kK : FuncId := 105
abbrev kT : TypeId := 2

end Go.Proofs.Ytlhchnnfgppneaa.Ab
