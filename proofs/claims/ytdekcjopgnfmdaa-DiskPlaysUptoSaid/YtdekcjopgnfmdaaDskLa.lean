/- What of Go's library is laid at this dump: maps.Clone[map[string]int,string,int], slices.Clone[[]byte,byte]. -/
import Derived.Test.YtdekcjopgnfmdaaProg
import Derived.Shelf.SlMaps.Clone
import Derived.Shelf.SlicesE.Clone
namespace Go.Proofs.Ytdekcjopgnfmdaa.Hand
set_option linter.unusedVariables false
def cloneD_ren : Go.Shelf.Ren := ⟨fun | 5 => 48 | 7 => 72 | n => n, fun | 23 => 82 | 25 => 9 | 3 => 3 | 4 => 4 | 20 => 20 | n => n, fun | n => n⟩
theorem cloneD : Go.Proofs.SlLaysW.n5 Try.prog cloneD_ren where
  mixed := by kernel_rfl
  f5 := ⟨"maps.Clone[map[string]int,string,int]", by decide, Go.Proofs.Try.func48.trans (congrArg some (by kernel_rfl))⟩
  f7 := Go.Proofs.Try.func72.trans (congrArg some (by kernel_rfl))
  t4 := Go.Proofs.Try.underlying4
  a4 := Go.Proofs.Try.isAgg4
  z4 := Go.Proofs.Try.sizeOf4
  v4 := Go.Proofs.Try.zeroValue4
  t20 := Go.Proofs.Try.underlying20
  a20 := Go.Proofs.Try.isAgg20
  z20 := Go.Proofs.Try.sizeOf20
  v20 := Go.Proofs.Try.zeroValue20
  t23 := Go.Proofs.Try.underlying82
  a23 := Go.Proofs.Try.isAgg82
  z23 := Go.Proofs.Try.sizeOf82
  v23 := Go.Proofs.Try.zeroValue82
def cloneB_ren : Go.Shelf.Ren := ⟨fun | 41 => 52 | n => n, fun | 22 => 53 | 23 => 5 | 4 => 4 | n => n, fun | n => n⟩
theorem cloneB : Go.Proofs.SlLaysE0.n41 Try.prog cloneB_ren where
  mixed := by kernel_rfl
  f41 := ⟨"slices.Clone[[]byte,byte]", by decide, Go.Proofs.Try.func52.trans (congrArg some (by kernel_rfl))⟩
  t4 := Go.Proofs.Try.underlying4
  a4 := Go.Proofs.Try.isAgg4
  z4 := Go.Proofs.Try.sizeOf4
  v4 := Go.Proofs.Try.zeroValue4
  t22 := Go.Proofs.Try.underlying53
  a22 := Go.Proofs.Try.isAgg53
  z22 := Go.Proofs.Try.sizeOf53
  v22 := Go.Proofs.Try.zeroValue53
end Go.Proofs.Ytdekcjopgnfmdaa.Hand
