/-
  DERIVED: THE SHELF's CONTRACTS AT THIS DUMP, IN PLAIN WORDS (tools/lay-plain.mjs out of 'YtjlphncecdlmcaaShk.lean', which tools/lay-shelf.mjs wrote): THE SAME DECLARATIONS UNDER THE SAME NAMES: 'import', 'namespace', 'open', 'def', 'theorem' AND NOTHING ELSE: no command of the shelf's: FOR A HAND-IN. Each laying: the table of numbers ('.._ren') and one theorem, a field a fact of the dump's own or the kernel's comparison; each contract: ONE APPLICATION.
-/
import Derived.Shelf.SlIter.Nil
import Derived.Shelf.SortM.Plain
import Derived.Shelf.SortM.SortNone
import Derived.Ground.GgzProg
import Derived.Ground.SlgmProg
import Derived.Test.YtjlphncecdlmcaaChecked
set_option linter.unusedVariables false
set_option linter.unusedSimpArgs false
namespace Go.Proofs
open Go.Shelf
def Try.keys128_ren : Go.Shelf.Ren := ⟨fun | 7 => 128 | 10 => 149 | n => n, fun | 23 => 131 | 26 => 9 | 3 => 39 | 28 => 190 | 0 => 0 | 27 => 189 | 33 => 83 | 4 => 4 | n => n, fun | n => n⟩
theorem Try.keys128 : Go.Proofs.SlLaysZ.n7 Try.prog Try.keys128_ren := {
  mixed := by kernel_rfl
  f7 := ⟨Try.f128.name, by decide, Try.func128.trans (congrArg some (by kernel_rfl))⟩
  f10 := ⟨Try.f149.name, by decide, Try.func149.trans (congrArg some (by kernel_rfl))⟩
  t0 := Try.underlying0
  a0 := Try.isAgg0
  z0 := Try.sizeOf0
  v0 := Try.zeroValue0
  t4 := Try.underlying4
  a4 := Try.isAgg4
  z4 := Try.sizeOf4
  v4 := Try.zeroValue4
  t23 := Try.underlying131
  a23 := Try.isAgg131
  z23 := Try.sizeOf131
  v23 := Try.zeroValue131
  t26 := Try.underlying9
  a26 := Try.isAgg9
  z26 := Try.sizeOf9
  v26 := Try.zeroValue9
  t27 := Try.underlying189
  a27 := Try.isAgg189
  z27 := Try.sizeOf189
  v27 := Try.zeroValue189
  t28 := Try.underlying190
  a28 := Try.isAgg190
  z28 := Try.sizeOf190
  v28 := Try.zeroValue190
  t33 := Try.underlying83
  a33 := Try.isAgg83
  z33 := Try.sizeOf83
  v33 := Try.zeroValue83 }
def Try.sorted127_ren : Go.Shelf.Ren := ⟨fun | 6 => 127 | 8 => 147 | 9 => 148 | 11 => 166 | 13 => 144 | 12 => 167 | 23 => 164 | 24 => 165 | 14 => 176 | 15 => 177 | 16 => 178 | 17 => 179 | 18 => 180 | 19 => 181 | 20 => 182 | 21 => 183 | 22 => 184 | 25 => 186 | 26 => 172 | 27 => 173 | 28 => 187 | 29 => 188 | 30 => 146 | 31 => 189 | n => n, fun | 26 => 9 | 28 => 190 | 24 => 29 | 0 => 0 | 3 => 3 | 37 => 207 | 48 => 223 | 50 => 53 | 4 => 4 | 40 => 217 | 39 => 216 | 45 => 84 | 5 => 5 | 9 => 9 | 51 => 229 | 55 => 232 | 57 => 239 | 58 => 164 | 33 => 83 | n => n, fun | n => n⟩
theorem Try.sorted127 : Go.Proofs.SlLaysZ.n6 Try.prog Try.sorted127_ren := {
  mixed := by kernel_rfl
  f6 := ⟨Try.f127.name, by decide, Try.func127.trans (congrArg some (by kernel_rfl))⟩
  f8 := ⟨Try.f147.name, by decide, Try.func147.trans (congrArg some (by kernel_rfl))⟩
  f11 := ⟨Try.f166.name, by decide, Try.func166.trans (congrArg some (by kernel_rfl))⟩
  t0 := Try.underlying0
  a0 := Try.isAgg0
  z0 := Try.sizeOf0
  v0 := Try.zeroValue0
  t24 := Try.underlying29
  a24 := Try.isAgg29
  z24 := Try.sizeOf29
  v24 := Try.zeroValue29
  t26 := Try.underlying9
  a26 := Try.isAgg9
  z26 := Try.sizeOf9
  v26 := Try.zeroValue9
  t28 := Try.underlying190
  a28 := Try.isAgg190
  z28 := Try.sizeOf190
  v28 := Try.zeroValue190
  i26 := by kernel_rfl }
def Try.sort148_ren : Go.Shelf.Ren := ⟨fun | 6 => 148 | 8 => 144 | 9 => 167 | 19 => 164 | 20 => 165 | 21 => 176 | 22 => 177 | 23 => 178 | 24 => 179 | 25 => 180 | 26 => 181 | 27 => 182 | 28 => 183 | 29 => 184 | 36 => 186 | 31 => 172 | 32 => 173 | 37 => 187 | 38 => 188 | 39 => 146 | 41 => 189 | n => n, fun | 27 => 29 | 29 => 9 | 3 => 3 | 32 => 207 | 26 => 29 | 0 => 0 | 44 => 223 | 46 => 53 | 4 => 4 | 36 => 217 | 35 => 216 | 41 => 84 | 5 => 5 | 9 => 9 | 53 => 229 | 57 => 232 | 63 => 239 | 64 => 164 | n => n, fun | n => n⟩
theorem Try.sort148 : Go.Proofs.SlLaysM.n6 Try.prog Try.sort148_ren := {
  mixed := by kernel_rfl
  f6 := ⟨Try.f148.name, by decide, Try.func148.trans (congrArg some (by kernel_rfl))⟩
  f8 := Try.func144.trans (congrArg some (by kernel_rfl))
  f9 := ⟨Try.f167.name, by decide, Try.func167.trans (congrArg some (by kernel_rfl))⟩
  f19 := Try.func164.trans (congrArg some (by kernel_rfl))
  f20 := Try.func165.trans (congrArg some (by kernel_rfl))
  f21 := ⟨Try.f176.name, by decide, Try.func176.trans (congrArg some (by kernel_rfl))⟩
  f22 := ⟨Try.f177.name, by decide, Try.func177.trans (congrArg some (by kernel_rfl))⟩
  f23 := ⟨Try.f178.name, by decide, Try.func178.trans (congrArg some (by kernel_rfl))⟩
  f24 := ⟨Try.f179.name, by decide, Try.func179.trans (congrArg some (by kernel_rfl))⟩
  f25 := ⟨Try.f180.name, by decide, Try.func180.trans (congrArg some (by kernel_rfl))⟩
  f26 := ⟨Try.f181.name, by decide, Try.func181.trans (congrArg some (by kernel_rfl))⟩
  f27 := ⟨Try.f182.name, by decide, Try.func182.trans (congrArg some (by kernel_rfl))⟩
  f28 := ⟨Try.f183.name, by decide, Try.func183.trans (congrArg some (by kernel_rfl))⟩
  f29 := ⟨Try.f184.name, by decide, Try.func184.trans (congrArg some (by kernel_rfl))⟩
  f31 := Try.func172.trans (congrArg some (by kernel_rfl))
  f32 := Try.func173.trans (congrArg some (by kernel_rfl))
  f36 := ⟨Try.f186.name, by decide, Try.func186.trans (congrArg some (by kernel_rfl))⟩
  f37 := ⟨Try.f187.name, by decide, Try.func187.trans (congrArg some (by kernel_rfl))⟩
  f38 := ⟨Try.f188.name, by decide, Try.func188.trans (congrArg some (by kernel_rfl))⟩
  f39 := ⟨Try.f146.name, by decide, Try.func146.trans (congrArg some (by kernel_rfl))⟩
  f41 := ⟨Try.f189.name, by decide, Try.func189.trans (congrArg some (by kernel_rfl))⟩
  t0 := Try.underlying0
  a0 := Try.isAgg0
  z0 := Try.sizeOf0
  v0 := Try.zeroValue0
  t3 := Try.underlying3
  a3 := Try.isAgg3
  z3 := Try.sizeOf3
  v3 := Try.zeroValue3
  t4 := Try.underlying4
  a4 := Try.isAgg4
  z4 := Try.sizeOf4
  v4 := Try.zeroValue4
  t5 := Try.underlying5
  a5 := Try.isAgg5
  z5 := Try.sizeOf5
  v5 := Try.zeroValue5
  t9 := Try.underlying9
  a9 := Try.isAgg9
  z9 := Try.sizeOf9
  v9 := Try.zeroValue9
  t26 := Try.underlying29
  a26 := Try.isAgg29
  z26 := Try.sizeOf29
  v26 := Try.zeroValue29
  t27 := Try.underlying29
  a27 := Try.isAgg29
  z27 := Try.sizeOf29
  v27 := Try.zeroValue29
  t29 := Try.underlying9
  a29 := Try.isAgg9
  z29 := Try.sizeOf9
  v29 := Try.zeroValue9
  t32 := Try.underlying207
  a32 := Try.isAgg207
  z32 := Try.sizeOf207
  v32 := Try.zeroValue207
  t35 := Try.underlying216
  a35 := Try.isAgg216
  z35 := Try.sizeOf216
  v35 := Try.zeroValue216
  t36 := Try.underlying217
  a36 := Try.isAgg217
  z36 := Try.sizeOf217
  v36 := Try.zeroValue217
  t41 := Try.underlying84
  a41 := Try.isAgg84
  z41 := Try.sizeOf84
  v41 := Try.zeroValue84
  t44 := Try.underlying223
  a44 := Try.isAgg223
  z44 := Try.sizeOf223
  v44 := Try.zeroValue223
  t46 := Try.underlying53
  a46 := Try.isAgg53
  z46 := Try.sizeOf53
  v46 := Try.zeroValue53
  t53 := Try.underlying229
  a53 := Try.isAgg229
  z53 := Try.sizeOf229
  v53 := Try.zeroValue229
  t57 := Try.underlying232
  a57 := Try.isAgg232
  z57 := Try.sizeOf232
  v57 := Try.zeroValue232
  t63 := Try.underlying239
  a63 := Try.isAgg239
  z63 := Try.sizeOf239
  v63 := Try.zeroValue239
  t64 := Try.underlying164
  a64 := Try.isAgg164
  z64 := Try.sizeOf164
  v64 := Try.zeroValue164 }
end Go.Proofs
