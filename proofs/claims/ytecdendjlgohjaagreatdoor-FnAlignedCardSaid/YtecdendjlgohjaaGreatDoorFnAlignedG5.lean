import Derived.Shelf.LaysM
import Derived.Shelf.Strconv.Itoa4
import Derived.Shelf.Strings.OnBuilder
import Derived.Test.YtecdendjlgohjaaGreatDoorProg
import Derived.Test.YtecdendjlgohjaaGreatDoorFnAlignedG1
import Derived.Shelf.LaysC
import Derived.Shelf.Strconv.ErrVarParseInt
import Derived.Shelf.Strings.Prefix
import Derived.Shelf.Strings.SplitShaped
import Derived.Test.YtecdendjlgohjaaGreatDoorRows
import Derived.WalkKit
import Derived.ProofKit
import Derived.LaidMore
import Derived.Lay
import Derived.Lib.LaidTab
import Derived.Stop.LaidErr
import Derived.Stop.Joined
import Derived.Stop.ErrReads
import Derived.Stop.Texts
import Derived.Shelf.Vars
import Derived.Test.YtecdendjlgohjaaGreatDoorFnAlignedG4
import Derived.Test.YtecdendjlgohjaaGreatDoorFnAlignedG3
import Derived.Lib.Strings
import Derived.Maps.AppendAt
import Derived.Test.YtecdendjlgohjaaGreatDoorFnAlignedG2
set_option linter.unusedVariables false
set_option linter.unusedSimpArgs false
namespace Go.Proofs
open Go.Shelf
set_option maxRecDepth 100000
def Tryz.lays156_ren : Go.Shelf.Ren := ⟨fun | 156 => 34 | 165 => 60 | 166 => 61 | 169 => 62 | 240 => 76 | 241 => 77 | 276 => 92 | 277 => 93 | n => n, fun | 31 => 49 | 9 => 9 | 3 => 3 | 4 => 4 | 0 => 0 | 20 => 20 | 72 => 95 | 76 => 99 | 70 => 93 | 37 => 30 | 75 => 98 | 127 => 110 | 164 => 122 | 5 => 5 | 80 => 101 | n => n, fun | n => n⟩
theorem Tryz.lays156 : Go.Proofs.Lays.n156 Tryz.prog Tryz.lays156_ren := {
  mixed := by kernel_rfl
  f156 := Tryz.func34.trans (congrArg some (by kernel_rfl))
  f165 := Tryz.func60.trans (congrArg some (by kernel_rfl))
  f166 := Tryz.func61.trans (congrArg some (by kernel_rfl))
  f169 := Tryz.func62.trans (congrArg some (by kernel_rfl))
  f240 := Tryz.func76.trans (congrArg some (by kernel_rfl))
  f241 := Tryz.func77.trans (congrArg some (by kernel_rfl))
  f276 := Tryz.func92.trans (congrArg some (by kernel_rfl))
  f277 := Tryz.func93.trans (congrArg some (by kernel_rfl))
  t0 := Tryz.underlying0
  a0 := Tryz.isAgg0
  z0 := Tryz.sizeOf0
  v0 := Tryz.zeroValue0
  t3 := Tryz.underlying3
  a3 := Tryz.isAgg3
  z3 := Tryz.sizeOf3
  v3 := Tryz.zeroValue3
  t4 := Tryz.underlying4
  a4 := Tryz.isAgg4
  z4 := Tryz.sizeOf4
  v4 := Tryz.zeroValue4
  t9 := Tryz.underlying9
  a9 := Tryz.isAgg9
  z9 := Tryz.sizeOf9
  v9 := Tryz.zeroValue9
  t20 := Tryz.underlying20
  a20 := Tryz.isAgg20
  z20 := Tryz.sizeOf20
  v20 := Tryz.zeroValue20
  t31 := Tryz.underlying49
  a31 := Tryz.isAgg49
  z31 := Tryz.sizeOf49
  v31 := Tryz.zeroValue49
  t37 := Tryz.underlying30
  a37 := Tryz.isAgg30
  z37 := Tryz.sizeOf30
  v37 := Tryz.zeroValue30
  t70 := Tryz.underlying93
  a70 := Tryz.isAgg93
  z70 := Tryz.sizeOf93
  v70 := Tryz.zeroValue93
  t72 := Tryz.underlying95
  a72 := Tryz.isAgg95
  z72 := Tryz.sizeOf95
  v72 := Tryz.zeroValue95
  t75 := Tryz.underlying98
  a75 := Tryz.isAgg98
  z75 := Tryz.sizeOf98
  v75 := Tryz.zeroValue98
  t76 := Tryz.underlying99
  a76 := Tryz.isAgg99
  z76 := Tryz.sizeOf99
  v76 := Tryz.zeroValue99
  t127 := Tryz.underlying110
  a127 := Tryz.isAgg110
  z127 := Tryz.sizeOf110
  v127 := Tryz.zeroValue110
  t164 := Tryz.underlying122
  a164 := Tryz.isAgg122
  z164 := Tryz.sizeOf122
  v164 := Tryz.zeroValue122 }
theorem Tryz.Builder_Extra_156 : Builder.Extra Tryz.prog Tryz.lays156_ren := {
  sizeBuilder := by kernel_rfl
  liesBuilder := by kernel_rfl
  t5 := Tryz.underlying5
  a5 := Tryz.isAgg5
  z5 := Tryz.sizeOf5
  v5 := Tryz.zeroValue5
  infoByte := by kernel_rfl
  cellsByte := by kernel_rfl
  sizeByte := by kernel_rfl
  neB5 := by decide }
open Go.RowKit in
theorem Tryz.strings_Join (bk o c : Nat) (xs : List ByteArray) (sep : ByteArray) (w : World) (hcells : ∀ (j : Nat) x, xs[j]? = some x → w.cell? ⟨bk, o + j, none⟩ = some (.string x)) (hbk : bk < w.heap.size) (hN : xs.length ≤ 140737488355328) (hcap : xs.length ≤ c) (hlen : (Lib.join (xs.map (·.data.toList)) sep.data.toList).length ≤ 140737488355328) :
    Calls Tryz.prog 34 #[.slice (some ⟨bk, o, none⟩) xs.length c, .string sep] w fun e w' => e = .returned (.string ⟨(Lib.join (xs.map (·.data.toList)) sep.data.toList).toArray⟩) ∧ Below w.heap.size w w' := Any.strings_Join Tryz.lays156 Tryz.Builder_Extra_156 bk o c xs sep w hcells hbk hN hcap hlen
def Tryz.laysM173_ren : Go.Shelf.Ren := ⟨fun | 173 => 59 | 246 => 75 | 283 => 88 | 284 => 89 | 285 => 90 | 286 => 91 | 129 => 105 | 317 => 104 | 318 => 106 | 319 => 107 | 320 => 108 | 337 => 119 | 338 => 120 | n => n, fun | 2 => 2 | 3 => 3 | 9 => 9 | 4 => 4 | 171 => 117 | 0 => 0 | 53 => 85 | 37 => 30 | 5 => 5 | 173 => 120 | 212 => 137 | 51 => 138 | 20 => 20 | 213 => 139 | 46 => 116 | 232 => 157 | 233 => 158 | n => n, fun | 17 => 0 | 18 => 6 | 19 => 7 | n => n⟩
theorem Tryz.laysM173 : Go.Proofs.LaysM.n173 Tryz.prog Tryz.laysM173_ren := {
  mixed := by kernel_rfl
  f129 := Tryz.func105.trans (congrArg some (by kernel_rfl))
  f173 := Tryz.func59.trans (congrArg some (by kernel_rfl))
  f246 := Tryz.func75.trans (congrArg some (by kernel_rfl))
  f283 := Tryz.func88.trans (congrArg some (by kernel_rfl))
  f284 := Tryz.func89.trans (congrArg some (by kernel_rfl))
  f285 := Tryz.func90.trans (congrArg some (by kernel_rfl))
  f286 := Tryz.func91.trans (congrArg some (by kernel_rfl))
  f317 := Tryz.func104.trans (congrArg some (by kernel_rfl))
  f318 := Tryz.func106.trans (congrArg some (by kernel_rfl))
  f319 := Tryz.func107.trans (congrArg some (by kernel_rfl))
  f320 := Tryz.func108.trans (congrArg some (by kernel_rfl))
  f337 := Tryz.func119.trans (congrArg some (by kernel_rfl))
  f338 := Tryz.func120.trans (congrArg some (by kernel_rfl))
  t0 := Tryz.underlying0
  a0 := Tryz.isAgg0
  z0 := Tryz.sizeOf0
  v0 := Tryz.zeroValue0
  t2 := Tryz.underlying2
  a2 := Tryz.isAgg2
  z2 := Tryz.sizeOf2
  v2 := Tryz.zeroValue2
  t3 := Tryz.underlying3
  a3 := Tryz.isAgg3
  z3 := Tryz.sizeOf3
  v3 := Tryz.zeroValue3
  t4 := Tryz.underlying4
  a4 := Tryz.isAgg4
  z4 := Tryz.sizeOf4
  v4 := Tryz.zeroValue4
  t5 := Tryz.underlying5
  a5 := Tryz.isAgg5
  z5 := Tryz.sizeOf5
  v5 := Tryz.zeroValue5
  t9 := Tryz.underlying9
  a9 := Tryz.isAgg9
  z9 := Tryz.sizeOf9
  v9 := Tryz.zeroValue9
  t20 := Tryz.underlying20
  a20 := Tryz.isAgg20
  z20 := Tryz.sizeOf20
  v20 := Tryz.zeroValue20
  t37 := Tryz.underlying30
  a37 := Tryz.isAgg30
  z37 := Tryz.sizeOf30
  v37 := Tryz.zeroValue30
  t46 := Tryz.underlying116
  a46 := Tryz.isAgg116
  z46 := Tryz.sizeOf116
  v46 := Tryz.zeroValue116
  t51 := Tryz.underlying138
  a51 := Tryz.isAgg138
  z51 := Tryz.sizeOf138
  v51 := Tryz.zeroValue138
  t53 := Tryz.underlying85
  a53 := Tryz.isAgg85
  z53 := Tryz.sizeOf85
  v53 := Tryz.zeroValue85
  t171 := Tryz.underlying117
  a171 := Tryz.isAgg117
  z171 := Tryz.sizeOf117
  v171 := Tryz.zeroValue117
  t173 := Tryz.underlying120
  a173 := Tryz.isAgg120
  z173 := Tryz.sizeOf120
  v173 := Tryz.zeroValue120
  t212 := Tryz.underlying137
  a212 := Tryz.isAgg137
  z212 := Tryz.sizeOf137
  v212 := Tryz.zeroValue137
  t213 := Tryz.underlying139
  a213 := Tryz.isAgg139
  z213 := Tryz.sizeOf139
  t232 := Tryz.underlying157
  a232 := Tryz.isAgg157
  z232 := Tryz.sizeOf157
  v232 := Tryz.zeroValue157
  t233 := Tryz.underlying158
  a233 := Tryz.isAgg158
  z233 := Tryz.sizeOf158
  v233 := Tryz.zeroValue158
  g17 := by kernel_rfl
  g18 := by kernel_rfl
  g19 := by kernel_rfl
  i0 := by kernel_rfl
  i2 := by kernel_rfl
  i3 := by kernel_rfl
  i4 := by kernel_rfl
  i5 := by kernel_rfl
  i9 := by kernel_rfl
  i20 := by kernel_rfl
  i37 := by kernel_rfl
  i46 := by kernel_rfl
  i51 := by kernel_rfl
  i53 := by kernel_rfl
  i171 := by kernel_rfl
  i173 := by kernel_rfl
  i212 := by kernel_rfl
  i232 := by kernel_rfl
  i233 := by kernel_rfl
  m17 := by kernel_rfl
  m18 := by kernel_rfl
  m19 := by kernel_rfl }
open Go.RowKit Go.Sort Go.Lib in
theorem Tryz.strconv_FormatInt_10 (n : Int) (h0 : -9223372036854775808 ≤ n) (h1 : n ≤ 9223372036854775807) (w : World) (htab : Lib.TabIs Tryz.prog w "internal/strconv.uint64pow10" .u64 Lib.pow10Tab) :
    Calls Tryz.prog 59 #[.int .i64 n, .int .i64 10] w fun e w' => e = .returned (.string ⟨(Lib.itoa n).toArray⟩) ∧ ∃ k os, w' = grow (w.drewN k) os := Any.strconv_FormatInt_10 Tryz.laysM173 n h0 h1 w htab
end Go.Proofs
namespace Go.Proofs.YtecdendjlgohjaaGreatDoor
open Go.RowKit Go.Sort
set_option maxHeartbeats 1000000
set_option maxRecDepth 100000
theorem below_grow (w : World) (k : Nat) (os : Array Obj) : Below w.heap.size w (grow (w.drewN k) os) :=
  ⟨rfl, rfl, rfl, by simp [grow], fun j hj => by simp [grow, World.drewN, Array.getElem?_append_left hj]⟩
theorem impl_Decimal (n : Int) (h0 : -9223372036854775808 ≤ n) (h1 : n ≤ 9223372036854775807) (w : World) (hT : TAB w) :
    Calls Tryz.prog 33 #[.int .i64 n] w fun e w' => e = .returned (.string ⟨(Lib.itoa n).toArray⟩) ∧ Below w.heap.size w w' := by
  go_enter Tryz.func33, Tryz.ntmps33
  go_wp2_with (go_at_call 59; refine (Tryz.strconv_FormatInt_10 n h0 h1 _ hT.here).mono ?_; rintro e w1 ⟨rfl, kk, os, rfl⟩)
  go_ret
  exact ⟨rfl, below_grow _ _ _⟩
def M.strs (ls : List (List UInt8)) : List Value := ls.map fun l => .string ⟨l.toArray⟩
theorem ei_str : EI Tryz.prog 49 9 (.string ByteArray.empty) 1 16 := ⟨Tryz.underlying49, by kernel_rfl, rfl, by decide⟩
theorem M.str_app (a b : List UInt8) : (⟨a.toArray⟩ : ByteArray) ++ ⟨b.toArray⟩ = ⟨(a ++ b).toArray⟩ := by
  apply ByteArray.ext
  simp
theorem M.strs_len (ls : List (List UInt8)) : (M.strs ls).length = ls.length := by simp [M.strs]
theorem M.unstr (ls : List (List UInt8)) : (ls.map fun l => (⟨l.toArray⟩ : ByteArray)).map (fun s => s.data.toList) = ls := by
  rw [List.map_map]
  exact List.map_id'' (fun l => by simp) ls
/-- strings.Join at the call's own row of texts. -/
theorem join_own {B : Nat} {v : Value} {ls : List (List UInt8)} {w : World} (own : w.ownsRow B 9 1 v ls.length (M.strs ls)) (sep : List UInt8) (hpos : 0 < ls.length) (hN : ls.length ≤ 100000000000) (hlen : (Lib.join ls sep).length ≤ 140737488355328) :
    ∃ g cap, v = .slice (some ⟨g, 0, none⟩) ls.length cap ∧ Calls Tryz.prog 34 #[.slice (some ⟨g, 0, none⟩) ls.length cap, .string ⟨sep.toArray⟩] w fun e w' => e = .returned (.string ⟨(Lib.join ls sep).toArray⟩) ∧ Below w.heap.size w w' := by
  obtain ⟨g, cap, rfl, hB, hg⟩ := World.ownsRow.form own hpos
  obtain ⟨A, c, hv, hc1, -, -⟩ := own_shape own
  simp only [Value.slice.injEq] at hv
  obtain ⟨-, -, rfl⟩ := hv
  refine ⟨g, cap, rfl, ?_⟩
  have h := Tryz.strings_Join g 0 cap (ls.map fun l => (⟨l.toArray⟩ : ByteArray)) ⟨sep.toArray⟩ w (fun j x hx => ?_) hg (by simp; omega) (by simpa using hc1) (by rw [M.unstr]; simpa using hlen)
  · rw [M.unstr, List.length_map] at h
    simpa using h
  · rw [Nat.zero_add]
    have hadd : (⟨g, 0, none⟩ : Addr).add j = ⟨g, j, none⟩ := by unfold Addr.add; split <;> simp_all
    rw [← hadd]
    refine World.ownsRow.cells own (g := g) rfl j _ ?_
    rw [List.getElem?_map] at hx
    obtain ⟨l, hl, rfl⟩ := Option.map_eq_some_iff.1 hx
    simp [M.strs, hl]
end Go.Proofs.YtecdendjlgohjaaGreatDoor
namespace Go.Proofs
open Go.Shelf
set_option maxRecDepth 100000
def Tryz.laysC174_ren : Go.Shelf.Ren := ⟨fun | 174 => 67 | 247 => 83 | 245 => 84 | 287 => 98 | 279 => 99 | 280 => 100 | 281 => 101 | 282 => 102 | 321 => 114 | 322 => 115 | 316 => 116 | 171 => 118 | 205 => 117 | 243 => 123 | 246 => 75 | 283 => 88 | 284 => 89 | 285 => 90 | 286 => 91 | 129 => 105 | 317 => 104 | 318 => 106 | 319 => 107 | 320 => 108 | 337 => 119 | 338 => 120 | n => n, fun | 9 => 9 | 3 => 3 | 2 => 2 | 75 => 98 | 85 => 104 | 4 => 4 | 167 => 129 | 5 => 5 | 53 => 85 | 175 => 130 | 46 => 116 | 168 => 132 | 37 => 30 | 0 => 0 | 210 => 145 | 21 => 21 | 127 => 110 | 145 => 156 | 143 => 154 | 171 => 117 | 173 => 120 | 212 => 137 | 51 => 138 | 20 => 20 | 213 => 139 | 232 => 157 | 233 => 158 | 80 => 101 | n => n, fun | 15 => 2 | 16 => 3 | 17 => 0 | 18 => 6 | 19 => 7 | n => n⟩
theorem Tryz.laysC174 : Go.Proofs.LaysC.n174 Tryz.prog Tryz.laysC174_ren := {
  mixed := by kernel_rfl
  f129 := Tryz.func105.trans (congrArg some (by kernel_rfl))
  f171 := Tryz.func118.trans (congrArg some (by kernel_rfl))
  f174 := Tryz.func67.trans (congrArg some (by kernel_rfl))
  f205 := Tryz.func117.trans (congrArg some (by kernel_rfl))
  f243 := Tryz.func123.trans (congrArg some (by kernel_rfl))
  f245 := Tryz.func84.trans (congrArg some (by kernel_rfl))
  f246 := Tryz.func75.trans (congrArg some (by kernel_rfl))
  f247 := Tryz.func83.trans (congrArg some (by kernel_rfl))
  f279 := Tryz.func99.trans (congrArg some (by kernel_rfl))
  f280 := Tryz.func100.trans (congrArg some (by kernel_rfl))
  f281 := Tryz.func101.trans (congrArg some (by kernel_rfl))
  f282 := Tryz.func102.trans (congrArg some (by kernel_rfl))
  f283 := Tryz.func88.trans (congrArg some (by kernel_rfl))
  f284 := Tryz.func89.trans (congrArg some (by kernel_rfl))
  f285 := Tryz.func90.trans (congrArg some (by kernel_rfl))
  f286 := Tryz.func91.trans (congrArg some (by kernel_rfl))
  f287 := Tryz.func98.trans (congrArg some (by kernel_rfl))
  f316 := Tryz.func116.trans (congrArg some (by kernel_rfl))
  f317 := Tryz.func104.trans (congrArg some (by kernel_rfl))
  f318 := Tryz.func106.trans (congrArg some (by kernel_rfl))
  f319 := Tryz.func107.trans (congrArg some (by kernel_rfl))
  f320 := Tryz.func108.trans (congrArg some (by kernel_rfl))
  f321 := Tryz.func114.trans (congrArg some (by kernel_rfl))
  f322 := Tryz.func115.trans (congrArg some (by kernel_rfl))
  f337 := Tryz.func119.trans (congrArg some (by kernel_rfl))
  f338 := Tryz.func120.trans (congrArg some (by kernel_rfl))
  t0 := Tryz.underlying0
  a0 := Tryz.isAgg0
  z0 := Tryz.sizeOf0
  v0 := Tryz.zeroValue0
  t2 := Tryz.underlying2
  a2 := Tryz.isAgg2
  z2 := Tryz.sizeOf2
  v2 := Tryz.zeroValue2
  t3 := Tryz.underlying3
  a3 := Tryz.isAgg3
  z3 := Tryz.sizeOf3
  v3 := Tryz.zeroValue3
  t4 := Tryz.underlying4
  a4 := Tryz.isAgg4
  z4 := Tryz.sizeOf4
  v4 := Tryz.zeroValue4
  t5 := Tryz.underlying5
  a5 := Tryz.isAgg5
  z5 := Tryz.sizeOf5
  v5 := Tryz.zeroValue5
  t9 := Tryz.underlying9
  a9 := Tryz.isAgg9
  z9 := Tryz.sizeOf9
  v9 := Tryz.zeroValue9
  t20 := Tryz.underlying20
  a20 := Tryz.isAgg20
  z20 := Tryz.sizeOf20
  v20 := Tryz.zeroValue20
  t21 := Tryz.underlying21
  a21 := Tryz.isAgg21
  z21 := Tryz.sizeOf21
  v21 := Tryz.zeroValue21
  t37 := Tryz.underlying30
  a37 := Tryz.isAgg30
  z37 := Tryz.sizeOf30
  v37 := Tryz.zeroValue30
  t46 := Tryz.underlying116
  a46 := Tryz.isAgg116
  z46 := Tryz.sizeOf116
  v46 := Tryz.zeroValue116
  t51 := Tryz.underlying138
  a51 := Tryz.isAgg138
  z51 := Tryz.sizeOf138
  v51 := Tryz.zeroValue138
  t53 := Tryz.underlying85
  a53 := Tryz.isAgg85
  z53 := Tryz.sizeOf85
  v53 := Tryz.zeroValue85
  t75 := Tryz.underlying98
  a75 := Tryz.isAgg98
  z75 := Tryz.sizeOf98
  v75 := Tryz.zeroValue98
  t85 := Tryz.underlying104
  a85 := Tryz.isAgg104
  z85 := Tryz.sizeOf104
  v85 := Tryz.zeroValue104
  t127 := Tryz.underlying110
  a127 := Tryz.isAgg110
  z127 := Tryz.sizeOf110
  v127 := Tryz.zeroValue110
  t143 := Tryz.underlying154
  a143 := Tryz.isAgg154
  z143 := Tryz.sizeOf154
  v143 := Tryz.zeroValue154
  t145 := Tryz.underlying156
  a145 := Tryz.isAgg156
  z145 := Tryz.sizeOf156
  v145 := Tryz.zeroValue156
  t167 := Tryz.underlying129
  a167 := Tryz.isAgg129
  z167 := Tryz.sizeOf129
  v167 := Tryz.zeroValue129
  t168 := Tryz.underlying132
  a168 := Tryz.isAgg132
  z168 := Tryz.sizeOf132
  v168 := Tryz.zeroValue132
  t171 := Tryz.underlying117
  a171 := Tryz.isAgg117
  z171 := Tryz.sizeOf117
  v171 := Tryz.zeroValue117
  t173 := Tryz.underlying120
  a173 := Tryz.isAgg120
  z173 := Tryz.sizeOf120
  v173 := Tryz.zeroValue120
  t175 := Tryz.underlying130
  a175 := Tryz.isAgg130
  z175 := Tryz.sizeOf130
  v175 := Tryz.zeroValue130
  t210 := Tryz.underlying145
  a210 := Tryz.isAgg145
  z210 := Tryz.sizeOf145
  v210 := Tryz.zeroValue145
  t212 := Tryz.underlying137
  a212 := Tryz.isAgg137
  z212 := Tryz.sizeOf137
  v212 := Tryz.zeroValue137
  t213 := Tryz.underlying139
  a213 := Tryz.isAgg139
  z213 := Tryz.sizeOf139
  t232 := Tryz.underlying157
  a232 := Tryz.isAgg157
  z232 := Tryz.sizeOf157
  v232 := Tryz.zeroValue157
  t233 := Tryz.underlying158
  a233 := Tryz.isAgg158
  z233 := Tryz.sizeOf158
  v233 := Tryz.zeroValue158
  g15 := by kernel_rfl
  g16 := by kernel_rfl
  g17 := by kernel_rfl
  g18 := by kernel_rfl
  g19 := by kernel_rfl
  t80 := Tryz.underlying101
  a80 := Tryz.isAgg101
  z80 := Tryz.sizeOf101
  v80 := Tryz.zeroValue101
  i0 := by kernel_rfl
  i2 := by kernel_rfl
  i3 := by kernel_rfl
  i4 := by kernel_rfl
  i5 := by kernel_rfl
  i9 := by kernel_rfl
  i20 := by kernel_rfl
  i21 := by kernel_rfl
  i37 := by kernel_rfl
  i46 := by kernel_rfl
  i51 := by kernel_rfl
  i53 := by kernel_rfl
  i75 := by kernel_rfl
  i80 := by kernel_rfl
  i85 := by kernel_rfl
  i127 := by kernel_rfl
  i143 := by kernel_rfl
  i145 := by kernel_rfl
  i167 := by kernel_rfl
  i168 := by kernel_rfl
  i171 := by kernel_rfl
  i173 := by kernel_rfl
  i175 := by kernel_rfl
  i210 := by kernel_rfl
  i212 := by kernel_rfl
  i232 := by kernel_rfl
  i233 := by kernel_rfl
  m15 := by kernel_rfl
  m16 := by kernel_rfl
  m17 := by kernel_rfl
  m18 := by kernel_rfl
  m19 := by kernel_rfl
  c0 := by kernel_rfl
  c2 := by kernel_rfl
  c3 := by kernel_rfl
  c4 := by kernel_rfl
  c5 := by kernel_rfl
  c9 := by kernel_rfl
  c20 := by kernel_rfl
  c21 := by kernel_rfl
  c37 := by kernel_rfl
  c46 := by kernel_rfl
  c51 := by kernel_rfl
  c53 := by kernel_rfl
  c75 := by kernel_rfl
  c80 := by kernel_rfl
  c85 := by kernel_rfl
  c127 := by kernel_rfl
  c143 := by kernel_rfl
  c145 := by kernel_rfl
  c167 := by kernel_rfl
  c168 := by kernel_rfl
  c171 := by kernel_rfl
  c173 := by kernel_rfl
  c175 := by kernel_rfl
  c210 := by kernel_rfl
  c212 := by kernel_rfl
  c213 := by kernel_rfl
  c232 := by kernel_rfl
  c233 := by kernel_rfl }
open Go.RowKit in
theorem Tryz.strconv_ParseInt_10_at64_ok (s : ByteArray) (hmax : s.size ≤ 9223372036854775806) (v : Int) (h : Lib.parseIntB 64 s.data.toList = .ok v) (w : World) :
    Calls Tryz.prog 67 #[.string s, .int .i64 10, .int .i64 64] w fun e w' => e = .returned (.tuple #[.int .i64 v, .nilIface]) ∧ (w' = w ∨ ∃ t, w' = Lib.bytesWorld w 5 t) := Any.strconv_ParseInt_10_at64_ok Tryz.laysC174 s hmax v h w
open Go.RowKit in
theorem Tryz.strconv_ParseInt_10_at64_syntax (s : ByteArray) (hlim : s.size ≤ 281474976710656) (h : Lib.parseIntB 64 s.data.toList = Lib.parseIntB 64 []) (ev : Value) (w : World) (hv : w.cell? ⟨2, 0, none⟩ = some ev) (hev : ev = .nilIface ∨ ∃ te pe, ev = .iface te pe) :
    Calls Tryz.prog 67 #[.string s, .int .i64 10, .int .i64 64] w fun e w' => ∃ N, e = .returned (.tuple #[.int .i64 (0), .iface 132 (.pointer (some ⟨N, 0, none⟩))]) ∧ w.heap.size ≤ N ∧ w'.heap[N]? = some (.cells #[.string ⟨#[80, 97, 114, 115, 101, 73, 110, 116]⟩, .string s, ev] 145 (0, 0)) ∧ Below w.heap.size w w' := Any.strconv_ParseInt_10_at64_syntax Tryz.laysC174 s hlim (h.trans rfl) ev w hv hev
open Go.RowKit in
theorem Tryz.strconv_ParseInt_10_at64_range (s : ByteArray) (hlim : s.size ≤ 281474976710656) (h : Lib.parseIntB 64 s.data.toList = .range) (ev : Value) (w : World) (hv : w.cell? ⟨3, 0, none⟩ = some ev) (hev : ev = .nilIface ∨ ∃ te pe, ev = .iface te pe) :
    Calls Tryz.prog 67 #[.string s, .int .i64 10, .int .i64 64] w fun e w' => ∃ N, e = .returned (.tuple #[.int .i64 (Lib.intSat 64 s.data.toList), .iface 132 (.pointer (some ⟨N, 0, none⟩))]) ∧ w.heap.size ≤ N ∧ w'.heap[N]? = some (.cells #[.string ⟨#[80, 97, 114, 115, 101, 73, 110, 116]⟩, .string s, ev] 145 (0, 0)) ∧ Below w.heap.size w w' := Any.strconv_ParseInt_10_at64_range Tryz.laysC174 s hlim h ev w hv hev
def Tryz.lays101_ren : Go.Shelf.Ren := ⟨fun | 101 => 68 | 208 => 85 | 206 => 103 | n => n, fun | 9 => 9 | 4 => 4 | 3 => 3 | n => n, fun | n => n⟩
theorem Tryz.lays101 : Go.Proofs.Lays.n101 Tryz.prog Tryz.lays101_ren := {
  mixed := by kernel_rfl
  f101 := Tryz.func68.trans (congrArg some (by kernel_rfl))
  f206 := Tryz.func103.trans (congrArg some (by kernel_rfl))
  f208 := Tryz.func85.trans (congrArg some (by kernel_rfl))
  t3 := Tryz.underlying3
  a3 := Tryz.isAgg3
  z3 := Tryz.sizeOf3
  v3 := Tryz.zeroValue3
  t4 := Tryz.underlying4
  a4 := Tryz.isAgg4
  z4 := Tryz.sizeOf4
  v4 := Tryz.zeroValue4
  t9 := Tryz.underlying9
  a9 := Tryz.isAgg9
  z9 := Tryz.sizeOf9
  v9 := Tryz.zeroValue9 }
open Go.RowKit Go.Lib in
theorem Tryz.strings_TrimPrefix (s p : ByteArray) (w : World) :
    Calls Tryz.prog 68 #[.string s, .string p] w fun e w' => e = .returned (.string ⟨(Lib.trimPrefix s.data.toList p.data.toList).toArray⟩) ∧ w' = w := Any.strings_TrimPrefix Tryz.lays101 s p w
def Tryz.lays102_ren : Go.Shelf.Ren := ⟨fun | 102 => 42 | 209 => 66 | 207 => 82 | n => n, fun | 9 => 9 | 4 => 4 | 3 => 3 | n => n, fun | n => n⟩
theorem Tryz.lays102 : Go.Proofs.Lays.n102 Tryz.prog Tryz.lays102_ren := {
  mixed := by kernel_rfl
  f102 := Tryz.func42.trans (congrArg some (by kernel_rfl))
  f207 := Tryz.func82.trans (congrArg some (by kernel_rfl))
  f209 := Tryz.func66.trans (congrArg some (by kernel_rfl))
  t3 := Tryz.underlying3
  a3 := Tryz.isAgg3
  z3 := Tryz.sizeOf3
  v3 := Tryz.zeroValue3
  t4 := Tryz.underlying4
  a4 := Tryz.isAgg4
  z4 := Tryz.sizeOf4
  v4 := Tryz.zeroValue4
  t9 := Tryz.underlying9
  a9 := Tryz.isAgg9
  z9 := Tryz.sizeOf9
  v9 := Tryz.zeroValue9 }
open Go.RowKit Go.Lib in
theorem Tryz.strings_TrimSuffix (s p : ByteArray) (w : World) (hs : s.size ≤ 9223372036854775807) :
    Calls Tryz.prog 42 #[.string s, .string p] w fun e w' => e = .returned (.string ⟨(Lib.trimSuffix s.data.toList p.data.toList).toArray⟩) ∧ w' = w := Any.strings_TrimSuffix Tryz.lays102 s p w hs
def Tryz.lays146_ren : Go.Shelf.Ren := ⟨fun | 146 => 41 | 221 => 65 | 268 => 79 | 138 => 80 | 143 => 81 | 195 => 94 | 197 => 95 | 218 => 96 | 219 => 97 | 260 => 109 | 217 => 110 | 225 => 111 | 224 => 112 | 267 => 113 | 266 => 121 | 314 => 122 | n => n, fun | 9 => 9 | 31 => 49 | 3 => 3 | 4 => 4 | 0 => 0 | 105 => 126 | 21 => 21 | 5 => 5 | 46 => 116 | 119 => 148 | 139 => 151 | 138 => 150 | 146 => 152 | 51 => 138 | n => n, fun | 1 => 1 | 3 => 4 | 4 => 5 | n => n⟩
theorem Tryz.lays146 : Go.Proofs.Lays.n146 Tryz.prog Tryz.lays146_ren := {
  mixed := by kernel_rfl
  f138 := Tryz.func80.trans (congrArg some (by kernel_rfl))
  f143 := Tryz.func81.trans (congrArg some (by kernel_rfl))
  f146 := Tryz.func41.trans (congrArg some (by kernel_rfl))
  f195 := Tryz.func94.trans (congrArg some (by kernel_rfl))
  f197 := Tryz.func95.trans (congrArg some (by kernel_rfl))
  f217 := Tryz.func110.trans (congrArg some (by kernel_rfl))
  f218 := Tryz.func96.trans (congrArg some (by kernel_rfl))
  f219 := Tryz.func97.trans (congrArg some (by kernel_rfl))
  f221 := Tryz.func65.trans (congrArg some (by kernel_rfl))
  f224 := Tryz.func112.trans (congrArg some (by kernel_rfl))
  f225 := Tryz.func111.trans (congrArg some (by kernel_rfl))
  f260 := Tryz.func109.trans (congrArg some (by kernel_rfl))
  f266 := Tryz.func121.trans (congrArg some (by kernel_rfl))
  f267 := Tryz.func113.trans (congrArg some (by kernel_rfl))
  f268 := Tryz.func79.trans (congrArg some (by kernel_rfl))
  f314 := Tryz.func122.trans (congrArg some (by kernel_rfl))
  t0 := Tryz.underlying0
  a0 := Tryz.isAgg0
  z0 := Tryz.sizeOf0
  v0 := Tryz.zeroValue0
  t3 := Tryz.underlying3
  a3 := Tryz.isAgg3
  z3 := Tryz.sizeOf3
  v3 := Tryz.zeroValue3
  t4 := Tryz.underlying4
  a4 := Tryz.isAgg4
  z4 := Tryz.sizeOf4
  v4 := Tryz.zeroValue4
  t5 := Tryz.underlying5
  a5 := Tryz.isAgg5
  z5 := Tryz.sizeOf5
  v5 := Tryz.zeroValue5
  t9 := Tryz.underlying9
  a9 := Tryz.isAgg9
  z9 := Tryz.sizeOf9
  v9 := Tryz.zeroValue9
  t21 := Tryz.underlying21
  a21 := Tryz.isAgg21
  z21 := Tryz.sizeOf21
  v21 := Tryz.zeroValue21
  t31 := Tryz.underlying49
  a31 := Tryz.isAgg49
  z31 := Tryz.sizeOf49
  v31 := Tryz.zeroValue49
  t46 := Tryz.underlying116
  a46 := Tryz.isAgg116
  z46 := Tryz.sizeOf116
  v46 := Tryz.zeroValue116
  t51 := Tryz.underlying138
  a51 := Tryz.isAgg138
  z51 := Tryz.sizeOf138
  v51 := Tryz.zeroValue138
  t105 := Tryz.underlying126
  a105 := Tryz.isAgg126
  z105 := Tryz.sizeOf126
  v105 := Tryz.zeroValue126
  t119 := Tryz.underlying148
  a119 := Tryz.isAgg148
  z119 := Tryz.sizeOf148
  t138 := Tryz.underlying150
  a138 := Tryz.isAgg150
  z138 := Tryz.sizeOf150
  v138 := Tryz.zeroValue150
  t139 := Tryz.underlying151
  a139 := Tryz.isAgg151
  z139 := Tryz.sizeOf151
  v139 := Tryz.zeroValue151
  t146 := Tryz.underlying152
  a146 := Tryz.isAgg152
  z146 := Tryz.sizeOf152
  v146 := Tryz.zeroValue152
  g1 := by kernel_rfl
  g3 := by kernel_rfl
  g4 := by kernel_rfl }
open Go.RowKit Go.Lib in
theorem Tryz.strings_Split (s sep : ByteArray) (m : Int) (w : World) (hs : s.size < 4294967281) (hm : w.cell? ⟨1, 0, none⟩ = some (.int .i64 m)) (h1 : 1 ≤ sep.size) :
    Calls Tryz.prog 41 #[.string s, .string sep] w fun e w' =>
      e = .returned (.slice (some ⟨w.heap.size, 0, none⟩) (Lib.countB s sep + 1) (Lib.countB s sep + 1)) ∧ w' = w.alloc (.cells ((Lib.splitB sep 0 (Lib.countB s sep) s).map Value.string).toArray 9) := Any.strings_Split Tryz.lays146 (by kernel_rfl) s sep m w hs hm h1
end Go.Proofs
namespace Go.Proofs.YtecdendjlgohjaaGreatDoor
open Go.RowKit Go.Sort
set_option maxHeartbeats 1000000
set_option maxRecDepth 100000
/-- What the reading functions ask of the world: the table of powers of ten; some bound of the byte searches; the two errors of strconv. -/
def LAD (w : World) : Prop := TAB w ∧ (∃ m, w.cell? ⟨1, 0, none⟩ = some (.int .i64 m)) ∧ (∃ te pe, w.cell? ⟨2, 0, none⟩ = some (.iface te pe)) ∧ ∃ te pe, w.cell? ⟨3, 0, none⟩ = some (.iface te pe)
theorem LAD.on {w u : World} (h : LAD w) (b : Below w.heap.size w u) : LAD u := by
  obtain ⟨hT, ⟨m, hm⟩, ⟨te, pe, hs⟩, te', pe', hr⟩ := h
  refine ⟨hT.on b, ⟨m, ?_⟩, ⟨te, pe, ?_⟩, te', pe', ?_⟩
  · rw [b.cell (World.block_lt_of_cell? _ _ hm)]; exact hm
  · rw [b.cell (World.block_lt_of_cell? _ _ hs)]; exact hs
  · rw [b.cell (World.block_lt_of_cell? _ _ hr)]; exact hr
theorem M.bs_mk' (s : ByteArray) : (⟨s.data.toList.toArray⟩ : ByteArray) = s := by
  apply ByteArray.ext
  simp
/-- The number that a text spells. -/
def M.numB (s : ByteArray) : Option Int := M.num s.data.toList
theorem impl_ReadDecimal (s : ByteArray) (hs : s.size ≤ 1000000000) (w : World) (hL : LAD w) :
    Calls Tryz.prog 44 #[.string s] w fun e w' => e = .returned (.tuple #[.int .i64 ((M.numB s).getD 0), .bool (M.numB s).isSome]) ∧ Below w.heap.size w w' := by
  have hL' := hL
  obtain ⟨hT, -, ⟨te, pe, hsy⟩, te', pe', hrg⟩ := hL'
  have HL := Lib.hid hL
  have hnum := M.numI_eq s.data.toList
  unfold M.numI at hnum
  cases hp : Lib.parseIntB 64 s.data.toList
  case range =>
    rw [hp] at hnum
    have HN := Lib.hid (show M.numB s = none from hnum.symm)
    clear hnum hL hT hsy
    go_enter Tryz.func44, Tryz.ntmps44
    go_wp2_with (go_at_call 67; refine (Tryz.strconv_ParseInt_10_at64_range s (by omega) hp _ w hrg (Or.inr ⟨_, _, rfl⟩)).mono ?_; rintro e w1 ⟨N, rfl, -, -, b1⟩)
    go_ret2
    exact ⟨by rw [HN.out]; rfl, b1⟩
  case ok v =>
    rw [hp] at hnum
    have hb := Lib.parseIntB_bounds hp
    have v0 : -9223372036854775808 ≤ v := by have := hb.1; simp at this; omega
    have v1 : v ≤ 9223372036854775807 := by have := hb.2; simp at this; exact Int.lt_add_one_iff.1 this
    have HNM := Lib.hid (show M.numB s = if Lib.itoa v = s.data.toList ∧ (Lib.trimPrefix s.data.toList [45]).length ≤ 18 then some v else none from hnum.symm)
    clear hnum hL hsy hrg hb
    by_cases he : Lib.itoa v = s.data.toList
    · have HE := Lib.hid he
      have e1 : (Lib.itoa v == s.toList) = true := by rw [ByteArray.toList_eq, HE.out]; exact beq_self_eq_true _
      clear he
      by_cases ht : (Lib.trimPrefix s.data.toList [45]).length ≤ 18
      · have HT := Lib.hid ht
        have e2 : ¬ (18 : Int) < ((Lib.trimPrefix s.data.toList [45]).length : Int) := by omega
        go_enter Tryz.func44, Tryz.ntmps44
        go_wp2_with (first | (go_at_call 67; refine (Tryz.strconv_ParseInt_10_at64_ok s (by omega) v hp w).mono ?_; rintro e w1 ⟨rfl, hw⟩; have b1 : Below w.heap.size w w1 := (by rcases hw with rfl | ⟨t, rfl⟩; exact Below.refl _ _; exact Lib.bytesWorld_below _ _ _)) | (go_at_call 33; refine (impl_Decimal v v0 v1 _ (hT.on b1)).mono ?_; rintro e w2 ⟨rfl, b2⟩) | (go_at_call 68; refine (Tryz.strings_TrimPrefix s ⟨#[45]⟩ _).mono ?_; rintro e w3 ⟨rfl, rfl⟩))
        go_ret2
        exact ⟨by rw [HNM.out, if_pos ⟨HE.out, HT.out⟩]; rfl, bel_trans b1 b2⟩
      · have HT := Lib.hid ht
        have e2 : (18 : Int) < ((Lib.trimPrefix s.data.toList [45]).length : Int) := by omega
        go_enter Tryz.func44, Tryz.ntmps44
        go_wp2_with (first | (go_at_call 67; refine (Tryz.strconv_ParseInt_10_at64_ok s (by omega) v hp w).mono ?_; rintro e w1 ⟨rfl, hw⟩; have b1 : Below w.heap.size w w1 := (by rcases hw with rfl | ⟨t, rfl⟩; exact Below.refl _ _; exact Lib.bytesWorld_below _ _ _)) | (go_at_call 33; refine (impl_Decimal v v0 v1 _ (hT.on b1)).mono ?_; rintro e w2 ⟨rfl, b2⟩) | (go_at_call 68; refine (Tryz.strings_TrimPrefix s ⟨#[45]⟩ _).mono ?_; rintro e w3 ⟨rfl, rfl⟩))
        go_ret2
        exact ⟨by rw [HNM.out, if_neg (fun h => HT.out h.2)]; rfl, bel_trans b1 b2⟩
    · have HE := Lib.hid he
      have e1 : (Lib.itoa v == s.toList) = false := by rw [ByteArray.toList_eq, beq_eq_false_iff_ne]; exact HE.out
      clear he
      go_enter Tryz.func44, Tryz.ntmps44
      go_wp2_with (first | (go_at_call 67; refine (Tryz.strconv_ParseInt_10_at64_ok s (by omega) v hp w).mono ?_; rintro e w1 ⟨rfl, hw⟩; have b1 : Below w.heap.size w w1 := (by rcases hw with rfl | ⟨t, rfl⟩; exact Below.refl _ _; exact Lib.bytesWorld_below _ _ _)) | (go_at_call 33; refine (impl_Decimal v v0 v1 _ (hT.on b1)).mono ?_; rintro e w2 ⟨rfl, b2⟩) | (go_at_call 68; refine (Tryz.strings_TrimPrefix s ⟨#[45]⟩ _).mono ?_; rintro e w3 ⟨rfl, rfl⟩))
      go_ret2
      exact ⟨by rw [HNM.out, if_neg (fun h => HE.out h.1)]; rfl, bel_trans b1 b2⟩
  rw [hp] at hnum
  have HN := Lib.hid (show M.numB s = none from hnum.symm)
  clear hnum hL hT hrg
  go_enter Tryz.func44, Tryz.ntmps44
  go_wp2_with (go_at_call 67; refine (Tryz.strconv_ParseInt_10_at64_syntax s (by omega) (hp.trans rfl) _ w hsy (Or.inr ⟨_, _, rfl⟩)).mono ?_; rintro e w1 ⟨N, rfl, -, -, b1⟩)
  go_ret2
  exact ⟨by rw [HN.out]; rfl, b1⟩
end Go.Proofs.YtecdendjlgohjaaGreatDoor
namespace Go.Proofs.YtecdendjlgohjaaGreatDoor
open Go.ChangeShapes Go.WideShapes Go.ChangeAt Go.RowKit
open Go.Extern.Stop Go.Stop Go.Extern
set_option maxRecDepth 100000
/-- The wrap for a law over laid variables that asks for the world's shape too. -/
theorem handed_both {H : Type} {enc : TypeId × Value → H} {a : Assume} {C : Checked} {os : Os} {f : FuncId} {fn : Func} {s : ChangeSpec} {conds : List PathCond} {apart fresh handsOn again : Bool} {X : World → Array Value → Prop}
    (hX : ∀ (w w' : World) (args : Array Value), w.heap = w'.heap → X w args → X w' args)
    (own : ownKnob C.prog.godebug = none) (started : os.Started) (noInit : C.prog.inits.idxOf? f = none) (hfn : C.prog.funcs[f]? = some fn)
    (witness : ∃ (w : World) (tape : Tape) (i : Input), w.os = os ∧ (w.forCall tape i).Shaped C.prog ∧ i.vars = [] ∧ Input.okWide C.prog (w.forCall tape i) .any w.heap.size f i ∧
      ((s.pre enc C.prog fn conds apart (w.forCall tape i).memory i.args ∧ X (w.forCall tape i).memory i.args) ∧ sizedMet enc C.prog fn (OpenSpec.ofChange s) apart (w.forCall tape i).memory i.args) ∧ a.holds C.prog (lone (Frame.enter C.prog f i.args .normal) [] (w.forCall tape i)))
    (contract : ∀ (W : World) (base : Nat) (args : Array Value) (ds gs : List (DataW H)) (before : List MemPlace),
      (∀ (j : Nat) t v, fn.params[j]? = some t → args[j]? = some v → Value.okWide C.prog W .any base t v) →
      DataW.Whole enc C.prog fn.params.toList s.vars apart W args.toList ds gs before →
      conds.all (PathCond.test C.prog ⟨fn.params.toList, ds, s.plain.varTypes C.prog, gs⟩) = true →
      (DataW.weightsEach C.prog (fn.params.toList ++ s.plain.varTypes C.prog) (ds ++ gs)).all (· ≤ reachBytes) = true → W.ShapedOpen C.prog → X W args →
      a.holds C.prog (lone (Frame.enter C.prog f args .normal) [] W) →
      Calls C.prog f args W fun e W' => ∃ v, e = .returned v ∧ s.post enc C.prog fn apart fresh handsOn again W args v W') :
    ReturnsInHanded a C os f .any (fun w args => (s.pre enc C.prog fn conds apart w args ∧ X w args) ∧ sizedMet enc C.prog fn (OpenSpec.ofChange s) apart w args) (s.post enc C.prog fn apart fresh handsOn again) := by
  refine returnsInHanded_of_calls own started noInit witness ?_
  intro w tape i _ hsh _ hok hpre hholds
  obtain ⟨_, _, _, fn', hfn', _, _, _, _, hval⟩ := hok
  have e : fn' = fn := Option.some.inj (hfn'.symm.trans hfn)
  subst e
  obtain ⟨⟨⟨ds, gs, before, hw, hc⟩, hx⟩, hz⟩ := hpre
  have hw' := DataW.Whole.of_heap (w' := w.forCall tape i) (by rfl) hw
  refine (contract (w.forCall tape i) w.heap.size i.args ds gs before hval hw' hc (hz.weights hw) hsh (hX _ _ _ (by rfl) hx) hholds).mono fun e W' ⟨v, he, hp⟩ => ?_
  subst he
  exact ChangeSpec.post_blind hp
theorem gTab7 : Tryz.prog.globalNamed "internal/strconv.uint64pow10" = some 0 := by kernel_rfl
theorem gRange : Tryz.prog.globalNamed "strconv.ErrRange" = some 3 := by kernel_rfl
theorem gSyntax : Tryz.prog.globalNamed "strconv.ErrSyntax" = some 2 := by kernel_rfl
theorem tRange : (Tryz.prog.globals[3]?).map (·.type) = some 98 := by kernel_rfl
theorem tSyntax : (Tryz.prog.globals[2]?).map (·.type) = some 98 := by kernel_rfl
theorem errStar : "*" ++ "errors.errorString" = "*errors.errorString" := by decide
theorem errRow (u : TypeId) (h : Tryz.prog.typeName? 3 u = some "*errors.errorString") : u = 154 :=
  typeName_ptr_named (nm := "errors.errorString") (by rw [errStar]; kernel_rfl) (by kernel_rfl) (by decide) u (by rw [errStar]; exact h)
def L7 : List (String × DataW Unit) := [("math/bits.deBruijn32tab", Rows.laid_math_bits_deBruijn32tab), ("math/bits.deBruijn64tab", Rows.laid_math_bits_deBruijn64tab), ("internal/strconv.uint64pow10", Rows.laid_internal_strconv_uint64pow10), ("unicode/utf8.acceptRanges", Rows.laid_unicode_utf8_acceptRanges), ("strconv.ErrRange", Rows.laid_strconv_ErrRange), ("strconv.ErrSyntax", Rows.laid_strconv_ErrSyntax), ("unicode/utf8.first", Rows.laid_unicode_utf8_first)]
theorem met7_plain : laidMetH Tryz.prog L7 = laidMet Tryz.prog L7 := by
  funext W
  exact propext (by rw [MakeChecks.laidMetH_plain _ _ _ (by kernel_rfl)])
theorem err_cell {W : World} {n : String} {text : List UInt8} {r : List (String × DataW Unit)} {g : Nat} (h : laidMet Tryz.prog ((n, .iface "*errors.errorString" (.ptr (.agg [.lit (.string text)]))) :: r) W)
    (hg : Tryz.prog.globalNamed n = some g) (ht : (Tryz.prog.globals[g]?).map (·.type) = some 98) : ∃ te pe, W.cell? ⟨g, 0, none⟩ = some (.iface te pe) := by
  obtain ⟨a, s, hv, -⟩ := laid_sentinel h hg ht Tryz.underlying98 errRow Tryz.underlying154 Tryz.underlying156 rfl rfl Tryz.underlying9 (by kernel_rfl) (by kernel_rfl)
  exact ⟨_, _, World.var?_cell hg hv 0⟩
/-- What the readers ask, out of the row's condition and the world's shape. -/
theorem lad_of {W : World} (h : laidMetH Tryz.prog L7 W) (hsh : W.ShapedOpen Tryz.prog) : LAD W := by
  rw [met7_plain] at h
  have h3 : laidMet Tryz.prog (("internal/strconv.uint64pow10", Lib.tabData .u64 Lib.pow10Tab) :: _) W := h.tail.tail
  have h5 : laidMet Tryz.prog (("strconv.ErrRange", .iface "*errors.errorString" (.ptr (.agg [.lit (.string _)]))) :: _) W := h3.tail.tail
  have h6 : laidMet Tryz.prog (("strconv.ErrSyntax", .iface "*errors.errorString" (.ptr (.agg [.lit (.string _)]))) :: _) W := h5.tail
  refine ⟨Lib.tabBelow_of_tabIs (Lib.tabIs_of_head (g := 0) (t := 137) (e := 85) (n := 20) gTab7 (by kernel_rfl) (by kernel_rfl) (by kernel_rfl) (by kernel_rfl) (by kernel_rfl) h3), ?_, err_cell h6 gSyntax tSyntax, err_cell h5 gRange tRange⟩
  exact cell_of_shapedOpen_int (zero := #[.int .i64 0]) hsh (of_decide_eq_true (by kernel_rfl)) (by kernel_rfl) rfl (by kernel_rfl) (by kernel_rfl) Tryz.underlying3
/-- The witness's own heap meets the condition. -/
theorem met7 (os : Os) (args : Array Value) : laidMetH Tryz.prog L7 ((World.laidAll Tryz.prog os L7).forCall (fun _ _ => 0) ⟨#[], args, []⟩).memory := by
  rw [met7_plain]
  exact laidMet_laidAll _ (by kernel_rfl) (by kernel_rfl)
theorem shaped7 (os : Os) (args : Array Value) : ((World.laidAll Tryz.prog os L7).forCall (fun _ _ => 0) ⟨#[], args, []⟩).Shaped Tryz.prog :=
  World.shaped_of_ZipB (by kernel_rfl) (by kernel_rfl)
end Go.Proofs.YtecdendjlgohjaaGreatDoor
namespace Go.Proofs.YtecdendjlgohjaaGreatDoor
open Go.RowKit
/-! The text of a mixer, in plain lists. -/
def M.bs (s : ByteArray) : List UInt8 := s.data.toList
theorem M.bs_mk (s : ByteArray) : (⟨(M.bs s).toArray⟩ : ByteArray) = s := by
  apply ByteArray.ext
  simp [M.bs]
def M.nmAt (ms : List Strip) (q : Nat) : List UInt8 := M.bs ((ms[q]?).getD M.sz).1
def M.sndW (ms : List Strip) (u : Int × Int) : List (List UInt8) := [[116, 111], M.nmAt ms u.1.toNat, Lib.itoa u.2]
def M.stW (ms : List Strip) (s : ByteArray) (l : Int) (us : List (Int × Int)) (j : Nat) : List (List UInt8) := [M.bs s, Lib.itoa l] ++ (us.take j).flatMap (M.sndW ms)
def M.stT (ms : List Strip) (s : ByteArray) (l : Int) (us : List (Int × Int)) (j : Nat) : List UInt8 := Lib.join (M.stW ms s l us j) [32]
section
variable {ms : List Strip} {s : ByteArray} {l : Int} {us : List (Int × Int)} {j : Nat} {p : Int × Int}
theorem M.stW_zero : M.stW ms s l us 0 = [M.bs s, Lib.itoa l] := by simp [M.stW]
theorem M.stW_next (h : us[j]? = some p) : M.stW ms s l us (j + 1) = M.stW ms s l us j ++ [[116, 111], M.nmAt ms p.1.toNat, Lib.itoa p.2] := by
  rw [M.stW, M.take_at h, List.flatMap_append]
  simp [M.stW, M.sndW]
theorem M.stW_len (h : j ≤ us.length) : (M.stW ms s l us j).length = 2 + 3 * j := by
  induction j with
  | zero => rw [M.stW_zero]; rfl
  | succ j ih =>
    rw [M.stW_next (List.getElem?_eq_getElem (by omega : j < us.length)), List.length_append, ih (by omega)]
    simp only [List.length_cons, List.length_nil]
    omega
theorem M.join3 {ws : List (List UInt8)} (h : ws ≠ []) (a b c sep : List UInt8) : Lib.join (ws ++ [a, b, c]) sep = Lib.join ws sep ++ (sep ++ (a ++ (sep ++ (b ++ (sep ++ c))))) := by
  have e : ws ++ [a, b, c] = ((ws ++ [a]) ++ [b]) ++ [c] := by simp
  rw [e, M.join_snoc, if_neg (by simp), M.join_snoc, if_neg (by simp), M.join_snoc, if_neg h]
  simp
theorem M.stW_ne (h : j ≤ us.length) : M.stW ms s l us j ≠ [] := by
  intro e
  have := M.stW_len (ms := ms) (s := s) (l := l) h
  rw [e, List.length_nil] at this
  omega
theorem M.stT_zero : M.stT ms s l us 0 = M.bs s ++ 32 :: Lib.itoa l := by
  rw [M.stT, M.stW_zero, show ([M.bs s, Lib.itoa l] : List (List UInt8)) = [M.bs s] ++ [Lib.itoa l] from rfl, M.join_snoc, if_neg (by simp), Lib.join_one]
  simp
theorem M.stT_next (h : us[j]? = some p) : M.stT ms s l us (j + 1) = M.stT ms s l us j ++ ([32, 116, 111, 32] ++ (M.nmAt ms p.1.toNat ++ 32 :: Lib.itoa p.2)) := by
  have hj : j < us.length := (List.getElem?_eq_some_iff.1 h).1
  rw [M.stT, M.stW_next h, M.join3 (M.stW_ne (by omega))]
  simp [M.stT]
end
/-- The first k lines. -/
def M.mxT (ms : List Strip) : Nat → List UInt8
  | 0 => []
  | k + 1 => M.mxT ms k ++ (M.stT ms ((ms[k]?).getD M.sz).1 ((ms[k]?).getD M.sz).2.1 ((ms[k]?).getD M.sz).2.2 ((ms[k]?).getD M.sz).2.2.length ++ [10])
theorem M.mxT_next {ms : List Strip} {k : Nat} {s : ByteArray} {l : Int} {us : List (Int × Int)} (h : ms[k]? = some (s, l, us)) : M.mxT ms (k + 1) = M.mxT ms k ++ (M.stT ms s l us us.length ++ [10]) := by
  rw [M.mxT, h]; rfl
/-- The text of a mixer; none if it is no mixer. -/
def M.mixerText (ms : List Strip) : List UInt8 := if M.mixOk ms = true then M.mxT ms ms.length else []
theorem M.mix_name {xs : List Strip} (h : M.mixOk xs = true) {k : Nat} {s : ByteArray} {l : Int} {us : List (Int × Int)} (hk : xs[k]? = some (s, l, us)) : s.size ≤ 10 := by
  rw [M.mixOk, Bool.and_eq_true, List.all_eq_true] at h
  have h1 := h.2 k (List.mem_range.2 (List.getElem?_eq_some_iff.1 hk).1)
  rw [M.stepM_eq hk] at h1
  simp only [M.stripOk, M.name, Bool.and_eq_true, decide_eq_true_eq] at h1
  exact h1.1.1.1.1.2
theorem M.bs_len (s : ByteArray) : (M.bs s).length = s.size := by rw [M.bs, Lib.size_eq]
theorem M.nm_le {xs : List Strip} (h : M.mixOk xs = true) (q : Nat) : (M.nmAt xs q).length ≤ 10 := by
  rw [M.nmAt, M.bs_len]
  cases hq : xs[q]? with
  | none => simp [M.sz]; decide
  | some x =>
    obtain ⟨s, l, us⟩ := x
    exact M.mix_name h hq
theorem M.stT_le {xs : List Strip} (h : M.mixOk xs = true) {k : Nat} {s : ByteArray} {l : Int} {us : List (Int × Int)} (hk : xs[k]? = some (s, l, us)) : ∀ j, j ≤ us.length → (M.stT xs s l us j).length ≤ 32 + 36 * j := by
  have hs := M.mix_name h hk
  obtain ⟨hl, hu, hb⟩ := M.mix_strip h hk
  intro j
  induction j with
  | zero =>
    intro _
    have := M.itoa_le l (by omega) (by omega)
    rw [M.stT_zero]
    simp only [List.length_append, List.length_cons, M.bs_len]
    omega
  | succ j ih =>
    intro hj
    rcases hp : us[j]'(by omega) with ⟨p0, p1⟩
    have h2 : us[j]? = some (p0, p1) := by rw [List.getElem?_eq_getElem (by omega), hp]
    obtain ⟨-, -, h3⟩ := M.sends_at hb h2
    have h4 := M.inn_iffM.1 h3
    have h5 := M.itoa_le p1 (by omega) (by omega)
    have h6 := M.nm_le h p0.toNat
    have h7 := ih (by omega)
    rw [M.stT_next h2]
    simp only [List.length_append, List.length_cons, List.length_nil]
    omega
theorem M.mxT_le {xs : List Strip} (h : M.mixOk xs = true) : ∀ k, k ≤ xs.length → (M.mxT xs k).length ≤ 200 * k := by
  intro k
  induction k with
  | zero => intro _; simp [M.mxT]
  | succ k ih =>
    intro hk
    rcases hx : xs[k]'(by omega) with ⟨s, l, us⟩
    have h2 : xs[k]? = some (s, l, us) := by rw [List.getElem?_eq_getElem (by omega), hx]
    have h3 := M.stT_le h h2 us.length (Nat.le_refl _)
    obtain ⟨-, hu, -⟩ := M.mix_strip h h2
    have h4 := ih (by omega)
    rw [M.mxT_next h2]
    simp only [List.length_append, List.length_cons, List.length_nil]
    omega
end Go.Proofs.YtecdendjlgohjaaGreatDoor
namespace Go.Proofs.YtecdendjlgohjaaGreatDoor
open Go.RowKit
set_option maxHeartbeats 1000000
/-! The text of a mixer read, in plain lists. -/
theorem M.named_names {xs ys : List Strip} (h : xs.map (·.1) = ys.map (·.1)) (s : ByteArray) : M.named xs s = M.named ys s := by
  have key : ∀ zs : List Strip, zs.findIdx? (fun x => decide (x.1 = s)) = (zs.map (·.1)).findIdx? (fun x => decide (x = s)) := by
    intro zs
    rw [List.findIdx?_map]
    rfl
  unfold M.named
  rw [key xs, key ys, h]
def M.wd (ws : List (List UInt8)) (k : Nat) : List UInt8 := (ws[k]?).getD []
def M.cntW (ws : List (List UInt8)) : Nat := (ws.length - 2) / 3
def M.headOk (ws : List (List UInt8)) : Bool := decide (2 ≤ ws.length) && decide (ws.length % 3 = 2) && (M.num (M.wd ws 1)).isSome
def M.headR (ws : List (List UInt8)) : Strip := (⟨(M.wd ws 0).toArray⟩, (M.num (M.wd ws 1)).getD 0, [])
def M.gOk (ws : List (List UInt8)) (k : Nat) : Bool := (M.num (M.wd ws (2 + 3 * k + 2))).isSome
def M.sndR (hs : List Strip) (ws : List (List UInt8)) (k : Nat) : Int × Int := (M.named hs ⟨(M.wd ws (2 + 3 * k + 1)).toArray⟩, (M.num (M.wd ws (2 + 3 * k + 2))).getD 0)
def M.sndsR (hs : List Strip) (ws : List (List UInt8)) (m : Nat) : List (Int × Int) := (List.range m).map (M.sndR hs ws)
def M.fullR (hs : List Strip) (ws : List (List UInt8)) : Strip := (⟨(M.wd ws 0).toArray⟩, (M.num (M.wd ws 1)).getD 0, M.sndsR hs ws (M.cntW ws))
theorem M.sndsR_next (hs : List Strip) (ws : List (List UInt8)) (m : Nat) : M.sndsR hs ws (m + 1) = M.sndsR hs ws m ++ [M.sndR hs ws m] := by
  rw [M.sndsR, List.range_succ, List.map_append]; rfl
theorem M.sndsR_len (hs : List Strip) (ws : List (List UInt8)) (m : Nat) : (M.sndsR hs ws m).length = m := by simp [M.sndsR]
/-- The strips that lines of words spell; none if one is out of form. -/
def M.build (ok : List (List UInt8) → Bool) (Ws : List (List (List UInt8))) : Option (List Strip) :=
  if Ws.all ok = true then some (Ws.map (M.fullR (Ws.map M.headR))) else none
def M.okI (ws : List (List UInt8)) : Bool := M.headOk ws && (List.range (M.cntW ws)).all (M.gOk ws)
/-- What is kept of what was read: a mixer with this text. -/
def M.kept (s : List UInt8) (r : Option (List Strip)) : Option (List Strip) := r.bind fun ms => if M.mixOk ms = true ∧ M.mxT ms ms.length = s then some ms else none
def M.linesI (s : List UInt8) : List (List (List UInt8)) := (M.splitBy 10 (Lib.trimSuffix s [10])).map M.wordsOf
def M.mixI (s : List UInt8) : Option (List Strip) := M.kept s (M.build M.okI (M.linesI s))
/-! Words and lines of a mixer's text. -/
def M.lineW (ms : List Strip) (x : Strip) : List (List UInt8) := M.stW ms x.1 x.2.1 x.2.2 x.2.2.length
def M.lineT (ms : List Strip) (x : Strip) : List UInt8 := Lib.join (M.lineW ms x) [32]
theorem M.lineW_eq (ms : List Strip) (x : Strip) : M.lineW ms x = [M.bs x.1, Lib.itoa x.2.1] ++ x.2.2.flatMap (M.sndW ms) := by
  rw [M.lineW, M.stW, List.take_length]
theorem M.mxT_join (ms : List Strip) : ∀ k, k ≤ ms.length → Lib.join ((ms.take k).map (M.lineT ms) ++ [[]]) [10] = M.mxT ms k
  | 0, _ => rfl
  | k + 1, h => by
    have ih := M.mxT_join ms k (by omega)
    have hk : ms[k]? = some ms[k] := List.getElem?_eq_getElem (by omega)
    rw [M.join_snoc] at ih ⊢
    rw [M.take_at hk, List.map_append, if_neg (by simp), List.map_cons, List.map_nil, M.join_snoc]
    rw [M.mxT, hk, Option.getD_some]
    show _ = M.mxT ms k ++ (M.lineT ms ms[k] ++ [10])
    by_cases h0 : (ms.take k).map (M.lineT ms) = []
    · rw [if_pos h0] at ih ⊢
      rw [← ih]; simp
    · rw [if_neg h0] at ih ⊢
      rw [← ih]; simp
theorem M.trimNL (l : List UInt8) : Lib.trimSuffix (l ++ [10]) [10] = l := by
  unfold Lib.trimSuffix Lib.hasSuffix
  simp
theorem M.name_plain {s : ByteArray} (h : M.name s = true) : M.bs s ≠ [] ∧ (32 : UInt8) ∉ M.bs s ∧ (10 : UInt8) ∉ M.bs s := by
  rw [M.name, Bool.and_eq_true, Bool.and_eq_true, decide_eq_true_eq, decide_eq_true_eq, List.all_eq_true] at h
  have key : ∀ b ∈ M.bs s, M.small b = true ∨ M.digit b = true := by
    intro b hb
    obtain ⟨k, hk, rfl⟩ := List.mem_iff_getElem.1 hb
    have hk' : k < s.size := by rw [← M.bs_len]; exact hk
    have h2 := h.2 k (List.mem_range.2 hk')
    rw [M.nameAt_eq hk', Bool.or_eq_true, Bool.and_eq_true] at h2
    rcases h2 with h2 | h2
    · exact Or.inl h2
    · exact Or.inr h2.1
  refine ⟨fun e => ?_, fun hm => ?_, fun hm => ?_⟩
  · have := M.bs_len s
    rw [e, List.length_nil] at this
    omega
  · rcases key _ hm with h3 | h3 <;> exact absurd h3 (by decide)
  · rcases key _ hm with h3 | h3 <;> exact absurd h3 (by decide)
theorem M.itoa_plain (n : Int) : Lib.itoa n ≠ [] ∧ (32 : UInt8) ∉ Lib.itoa n ∧ (10 : UInt8) ∉ Lib.itoa n := by
  refine ⟨fun e => ?_, fun h => absurd (M.itoa_digit _ _ h) (by decide), fun h => absurd (M.itoa_digit _ _ h) (by decide)⟩
  unfold Lib.itoa at e
  split at e
  · cases e
  · exact M.dd_ne _ e
end Go.Proofs.YtecdendjlgohjaaGreatDoor
namespace Go.Proofs.YtecdendjlgohjaaGreatDoor
open Go.RowKit
set_option maxHeartbeats 1000000
theorem M.flat3 {α β : Type} (f : α → List β) (h : ∀ x, (f x).length = 3) : ∀ (xs : List α) (j i : Nat) (x : α), xs[j]? = some x → i < 3 → (xs.flatMap f)[3 * j + i]? = (f x)[i]?
  | y :: ys, 0, i, x, hx, hi => by
    simp only [List.getElem?_cons_zero, Option.some.injEq] at hx
    subst hx
    rw [List.flatMap_cons, List.getElem?_append_left (by rw [h]; omega), Nat.mul_zero, Nat.zero_add]
  | y :: ys, j + 1, i, x, hx, hi => by
    rw [List.getElem?_cons_succ] at hx
    rw [List.flatMap_cons, List.getElem?_append_right (by rw [h]; omega), h]
    have := M.flat3 f h ys j i x hx hi
    rw [show 3 * (j + 1) + i - 3 = 3 * j + i by omega]
    exact this
theorem M.flat3_len {α β : Type} (f : α → List β) (h : ∀ x, (f x).length = 3) (xs : List α) : (xs.flatMap f).length = 3 * xs.length := by
  induction xs with
  | nil => rfl
  | cons x xs ih => rw [List.flatMap_cons, List.length_append, h, ih, List.length_cons]; omega
theorem M.sndW_len (ms : List Strip) (u : Int × Int) : (M.sndW ms u).length = 3 := rfl
section
variable {ms : List Strip} {x : Strip}
theorem M.lineW_len : (M.lineW ms x).length = 2 + 3 * x.2.2.length := by
  rw [M.lineW_eq, List.length_append, M.flat3_len _ (M.sndW_len ms)]; rfl
theorem M.lineW_cnt : M.cntW (M.lineW ms x) = x.2.2.length := by
  rw [M.cntW, M.lineW_len]; omega
theorem M.lineW_0 : M.wd (M.lineW ms x) 0 = M.bs x.1 := by rw [M.wd, M.lineW_eq]; rfl
theorem M.lineW_1 : M.wd (M.lineW ms x) 1 = Lib.itoa x.2.1 := by rw [M.wd, M.lineW_eq]; rfl
theorem M.lineW_at {j : Nat} {u : Int × Int} (hu : x.2.2[j]? = some u) {i : Nat} (hi : i < 3) : M.wd (M.lineW ms x) (2 + 3 * j + i) = (M.sndW ms u).getD i [] := by
  rw [M.wd, M.lineW_eq, List.getElem?_append_right (by simp; omega), show 2 + 3 * j + i - [M.bs x.1, Lib.itoa x.2.1].length = 3 * j + i by simp; omega, M.flat3 _ (M.sndW_len ms) _ _ _ _ hu hi]
  rw [List.getD_eq_getElem?_getD]
end
theorem M.mixOk_len {ms : List Strip} (h : M.mixOk ms = true) : 1 ≤ ms.length ∧ ms.length ≤ 8 := by
  rw [M.mixOk, Bool.and_eq_true] at h
  have := M.inn_iffM.1 h.1
  omega
theorem M.mix_step {ms : List Strip} (h : M.mixOk ms = true) {k : Nat} {x : Strip} (hk : ms[k]? = some x) : M.name x.1 = true ∧ M.has x.1 ((ms.take k).map (·.1)) = false := by
  rw [M.mixOk, Bool.and_eq_true, List.all_eq_true] at h
  have h1 := h.2 k (List.mem_range.2 (List.getElem?_eq_some_iff.1 hk).1)
  rw [M.stepM_eq hk, Bool.and_eq_true, Bool.not_eq_true'] at h1
  refine ⟨?_, h1.2⟩
  have h2 := h1.1
  rw [M.stripOk, Bool.and_eq_true, Bool.and_eq_true] at h2
  exact h2.1.1
theorem M.named_self {ms : List Strip} (h : M.mixOk ms = true) {k : Nat} {x : Strip} (hk : ms[k]? = some x) : M.named ms x.1 = k := by
  refine M.named_at hk rfl fun j hj y hy e => ?_
  have h1 := (M.mix_step h hk).2
  have h2 := M.has_yes (xs := ms) (k := k) hj hy
  rw [e, h1] at h2
  cases h2
theorem M.mix_send {ms : List Strip} (h : M.mixOk ms = true) {k : Nat} {x : Strip} (hk : ms[k]? = some x) {j : Nat} {u : Int × Int} (hu : x.2.2[j]? = some u) : 0 ≤ u.1 ∧ u.1 < ms.length ∧ -2147483648 ≤ u.2 ∧ u.2 ≤ 2147483647 := by
  obtain ⟨s, l, us⟩ := x
  obtain ⟨u0, u1⟩ := u
  obtain ⟨-, -, hb⟩ := M.mix_strip h hk
  obtain ⟨h1, h2, h3⟩ := M.sends_at hb hu
  have h4 := M.smp_bd h3
  simp only
  omega
theorem M.nmAt_in {ms : List Strip} {q : Nat} (hq : q < ms.length) : M.nmAt ms q = M.bs ms[q].1 := by
  rw [M.nmAt, List.getElem?_eq_getElem hq]; rfl
theorem M.lineW_plain {ms : List Strip} (h : M.mixOk ms = true) {k : Nat} {x : Strip} (hk : ms[k]? = some x) : ∀ a ∈ M.lineW ms x, a ≠ [] ∧ (32 : UInt8) ∉ a ∧ (10 : UInt8) ∉ a := by
  intro a ha
  rw [M.lineW_eq, List.mem_append] at ha
  rcases ha with ha | ha
  · simp only [List.mem_cons, List.not_mem_nil, or_false] at ha
    rcases ha with rfl | rfl
    · exact M.name_plain (M.mix_step h hk).1
    · exact M.itoa_plain _
  · obtain ⟨u, hu, ha⟩ := List.mem_flatMap.1 ha
    obtain ⟨j, hj⟩ := List.getElem?_of_mem hu
    have hb := M.mix_send h hk hj
    simp only [M.sndW, List.mem_cons, List.not_mem_nil, or_false] at ha
    rcases ha with rfl | rfl | rfl
    · decide
    · have hq : u.1.toNat < ms.length := by omega
      rw [M.nmAt_in hq]
      exact M.name_plain (M.mix_step h (List.getElem?_eq_getElem hq)).1
    · exact M.itoa_plain _
theorem M.lineW_ne {ms : List Strip} {x : Strip} : M.lineW ms x ≠ [] := by
  intro e
  have := M.lineW_len (ms := ms) (x := x)
  rw [e, List.length_nil] at this
  omega
theorem M.line_split {ms : List Strip} (h : M.mixOk ms = true) {k : Nat} {x : Strip} (hk : ms[k]? = some x) : M.splitBy 32 (M.lineT ms x) = M.lineW ms x :=
  M.splitBy_join M.lineW_ne fun a ha => (M.lineW_plain h hk a ha).2.1
theorem M.line_words {ms : List Strip} (h : M.mixOk ms = true) {k : Nat} {x : Strip} (hk : ms[k]? = some x) : M.wordsOf (M.lineT ms x) = M.lineW ms x := by
  rw [M.wordsOf, M.line_split h hk]
  refine List.filter_eq_self.2 fun a ha => ?_
  simpa using (M.lineW_plain h hk a ha).1
theorem M.join_mem {c : UInt8} {sep : List UInt8} : ∀ {ls : List (List UInt8)}, c ∈ Lib.join ls sep → (∃ a ∈ ls, c ∈ a) ∨ c ∈ sep
  | [], h => by simp [Lib.join] at h
  | [a], h => by rw [Lib.join_one] at h; exact Or.inl ⟨a, by simp, h⟩
  | a :: b :: r, h => by
    rw [M.join_cons2, List.mem_append, List.mem_append] at h
    rcases h with (h | h) | h
    · exact Or.inl ⟨a, by simp, h⟩
    · exact Or.inr h
    · rcases M.join_mem h with ⟨d, hd, h2⟩ | h2
      · exact Or.inl ⟨d, List.mem_cons_of_mem _ hd, h2⟩
      · exact Or.inr h2
theorem M.line_noNL {ms : List Strip} (h : M.mixOk ms = true) {k : Nat} {x : Strip} (hk : ms[k]? = some x) : (10 : UInt8) ∉ M.lineT ms x := by
  intro hm
  rcases M.join_mem hm with ⟨a, ha, h2⟩ | h2
  · exact (M.lineW_plain h hk a ha).2.2 h2
  · exact absurd h2 (by decide)
theorem M.all_lines {ms : List Strip} (h : M.mixOk ms = true) : ∀ a ∈ ms.map (M.lineT ms), (10 : UInt8) ∉ a := by
  intro a ha
  obtain ⟨x, hx, rfl⟩ := List.mem_map.1 ha
  obtain ⟨k, hk⟩ := List.getElem?_of_mem hx
  exact M.line_noNL h hk
theorem M.text_trim {ms : List Strip} (h : M.mixOk ms = true) : M.splitBy 10 (Lib.trimSuffix (M.mxT ms ms.length) [10]) = ms.map (M.lineT ms) := by
  have hl := (M.mixOk_len h).1
  have e : M.mxT ms ms.length = Lib.join (ms.map (M.lineT ms)) [10] ++ [10] := by
    rw [← M.mxT_join ms ms.length (Nat.le_refl _), List.take_length, M.join_snoc, if_neg (by intro e; rw [List.map_eq_nil_iff] at e; rw [e] at hl; simp at hl)]
    simp
  rw [e, M.trimNL]
  exact M.splitBy_join (by intro e; rw [List.map_eq_nil_iff] at e; rw [e] at hl; simp at hl) (M.all_lines h)
theorem M.map_words {ms : List Strip} (h : M.mixOk ms = true) : (ms.map (M.lineT ms)).map M.wordsOf = ms.map (M.lineW ms) := by
  rw [List.map_map]
  refine List.map_congr_left fun x hx => ?_
  obtain ⟨k, hk⟩ := List.getElem?_of_mem hx
  exact M.line_words h hk
theorem M.line_lat {ms : List Strip} (h : M.mixOk ms = true) {k : Nat} {x : Strip} (hk : ms[k]? = some x) : M.num (M.wd (M.lineW ms x) 1) = some x.2.1 := by
  obtain ⟨s, l, us⟩ := x
  obtain ⟨hl, -, -⟩ := M.mix_strip h hk
  rw [M.lineW_1]
  exact M.num_itoa (by simp only; omega)
theorem M.line_gain {ms : List Strip} (h : M.mixOk ms = true) {k : Nat} {x : Strip} (hk : ms[k]? = some x) {j : Nat} {u : Int × Int} (hu : x.2.2[j]? = some u) : M.num (M.wd (M.lineW ms x) (2 + 3 * j + 2)) = some u.2 := by
  have hb := M.mix_send h hk hu
  rw [M.lineW_at hu (by omega)]
  exact M.num_itoa (n := u.2) (by omega)
theorem M.line_head {ms : List Strip} {x : Strip} : (M.headR (M.lineW ms x)).1 = x.1 := by
  show (⟨(M.wd (M.lineW ms x) 0).toArray⟩ : ByteArray) = x.1
  rw [M.lineW_0, M.bs_mk]
theorem M.line_full {ms hs : List Strip} (h : M.mixOk ms = true) (hh : hs.map (·.1) = ms.map (·.1)) {k : Nat} {x : Strip} (hk : ms[k]? = some x) : M.fullR hs (M.lineW ms x) = x := by
  unfold M.fullR
  rw [M.lineW_0, M.bs_mk, M.line_lat h hk, Option.getD_some, M.lineW_cnt]
  have e : M.sndsR hs (M.lineW ms x) x.2.2.length = x.2.2 := by
    apply List.ext_getElem?
    intro j
    by_cases hj : j < x.2.2.length
    · have hu : x.2.2[j]? = some x.2.2[j] := List.getElem?_eq_getElem hj
      have hb := M.mix_send h hk hu
      have hq : x.2.2[j].1.toNat < ms.length := by omega
      rw [M.sndsR, List.getElem?_map, List.getElem?_range hj, hu, Option.map_some, M.sndR, M.line_gain h hk hu, Option.getD_some]
      rw [M.lineW_at hu (by omega)]
      show some (M.named hs ⟨(M.nmAt ms x.2.2[j].1.toNat).toArray⟩, x.2.2[j].2) = _
      rw [M.nmAt_in hq, M.bs_mk, M.named_names hh, M.named_self h (List.getElem?_eq_getElem hq)]
      congr 1
      apply Prod.ext
      · show ((x.2.2[j].1.toNat : Nat) : Int) = _; omega
      · rfl
    · rw [List.getElem?_eq_none (by rw [M.sndsR_len]; omega), List.getElem?_eq_none (by omega)]
  rw [e]
theorem M.heads {ms : List Strip} : ((ms.map (M.lineW ms)).map M.headR).map (·.1) = ms.map (·.1) := by
  rw [List.map_map, List.map_map]
  exact List.map_congr_left fun x _ => M.line_head
theorem M.build_text {ms : List Strip} (h : M.mixOk ms = true) {ok : List (List UInt8) → Bool} (hok : ∀ (k : Nat) (x : Strip), ms[k]? = some x → ok (M.lineW ms x) = true) : M.build ok (ms.map (M.lineW ms)) = some ms := by
  unfold M.build
  rw [if_pos]
  · congr 1
    rw [List.map_map]
    have : ms.map (M.fullR ((ms.map (M.lineW ms)).map M.headR) ∘ M.lineW ms) = ms.map id := by
      refine List.map_congr_left fun x hx => ?_
      obtain ⟨k, hk⟩ := List.getElem?_of_mem hx
      exact M.line_full h M.heads hk
    rw [this, List.map_id]
  · rw [List.all_eq_true]
    intro w hw
    obtain ⟨x, hx, rfl⟩ := List.mem_map.1 hw
    obtain ⟨k, hk⟩ := List.getElem?_of_mem hx
    exact hok k x hk
theorem M.okI_line {ms : List Strip} (h : M.mixOk ms = true) (k : Nat) (x : Strip) (hk : ms[k]? = some x) : M.okI (M.lineW ms x) = true := by
  rw [M.okI, M.headOk, Bool.and_eq_true, Bool.and_eq_true, Bool.and_eq_true, decide_eq_true_eq, decide_eq_true_eq, M.lineW_len, M.line_lat h hk, List.all_eq_true]
  refine ⟨⟨⟨by omega, by omega⟩, rfl⟩, fun j hj => ?_⟩
  rw [List.mem_range, M.lineW_cnt] at hj
  rw [M.gOk, M.line_gain h hk (List.getElem?_eq_getElem hj)]; rfl
/-- A mixer's text is read back, by both readers. -/
theorem M.mixI_text {ms : List Strip} (h : M.mixOk ms = true) : M.mixI (M.mxT ms ms.length) = some ms := by
  rw [M.mixI, M.linesI, M.text_trim h, M.map_words h, M.build_text h (M.okI_line h), M.kept, Option.bind_some, if_pos ⟨h, rfl⟩]
end Go.Proofs.YtecdendjlgohjaaGreatDoor
namespace Go.Proofs.YtecdendjlgohjaaGreatDoor
open Go.RowKit Go.Sort
set_option maxHeartbeats 2000000
set_option maxRecDepth 100000
theorem M.strs_push (ls : List (List UInt8)) (x : List UInt8) : M.strs ls ++ [.string ⟨x.toArray⟩] = M.strs (ls ++ [x]) := by simp [M.strs]
end Go.Proofs.YtecdendjlgohjaaGreatDoor
namespace Go.Proofs.YtecdendjlgohjaaGreatDoor
open Go.RowKit Go.Sort
set_option maxHeartbeats 2000000
set_option maxRecDepth 100000
end Go.Proofs.YtecdendjlgohjaaGreatDoor
namespace Go.Proofs.YtecdendjlgohjaaGreatDoor
open Go.RowKit Go.Sort
set_option maxHeartbeats 2000000
set_option maxRecDepth 100000
set_option linter.unusedVariables false
set_option linter.unusedSimpArgs false
section
variable {P : Program} {t e : TypeId} {z : Value} {bytes : Nat}
/-- 'out = append(out, x)', and where the row lies then. -/
theorem wpList_push1c (hE : EI P t e z 1 bytes) {w : World} {ops : Array Oper} {rest : List Oper} {o : Oper} {a : Act} {Q : Exit → Act → World → Prop} {u : Value}
    (hgd : o.guard = none) (s x : Operand)
    (ho : o.op = .call { callee := .builtin .append, args := #[s, x], argTypes := #[t, t] })
    {B : Nat} {v : Value} {n : Nat} {xs : List Value} (hown : w.ownsRow B e 1 v n xs) (hs : a.eval s = v)
    (hx : a.eval x = .slice (some ⟨w.heap.size, 0, none⟩) 1 1) (h1 : u.oneCell' = true)
    (hn : n + 1 ≤ maxLen) (hbytes : (n + 1) * bytes ≤ 140737488355328) (hbase : B ≤ w.heap.size)
    (K : ∀ v' w', w'.ownsRow B e 1 v' (n + 1) (xs ++ [u]) → w.grownBy w' v.ownBlock → Below B w w' → (v'.ownBlock = v.ownBlock ∨ ∀ k, v'.ownBlock = some k → w.heap.size ≤ k) → wpList P ops Q rest (a.put o.dst v') w') :
    wpList P ops Q (o :: rest) a (w.alloc (.cells #[u] e)) := by
  obtain ⟨ht, hinfo, hzs, hsz⟩ := hE
  obtain ⟨i0, hi, hz0, hz1, hz2⟩ := info_parts hinfo
  refine wpList_append_own_at _ hgd s x t ho B e i0 z 1 bytes ht hi hz0 hz1 hz2 hzs hsz v n xs hs (hown.alloc _) ⟨w.heap.size, 0, none⟩ 1 1 [u] hx rfl ?_ (by simpa using h1) hn hbytes (by simp; omega) ?_
  · intro j u2 hj
    have hadd : (⟨w.heap.size, 0, none⟩ : Addr).add j = ⟨w.heap.size, j, none⟩ := by unfold Addr.add; split <;> simp_all
    rw [hadd, cell_of_row _ w.heap.size j #[u] e (0, 0) (heap_alloc_new w _)]
    simpa using hj
  · intro v' w' h2 h3 _ g4
    have h4 : w.grownBy w' v.ownBlock := by
      have := World.grownBy_alloc w (.cells #[u] e) none
      exact ⟨h3.os.trans this.os, h3.tape.trans this.tape, h3.output.trans this.output, Nat.le_trans this.size h3.size, fun k hk hne => by
        rw [h3.block k (by simp; omega) hne]; exact this.block k hk (by simp)⟩
    refine K v' w' h2 h4 ((Below.refl _ _).grown h4 hbase fun k hk => (hown.lt k hk).1) ?_
    rcases g4 with h | h
    · exact .inl h
    · refine .inr fun k hk => ?_
      rw [h] at hk
      have hsz' : (w.alloc (.cells #[u] e)).heap.size = w.heap.size + 1 := by simp
      rw [hsz', Option.some.injEq] at hk
      omega
end
theorem M.pieces (c : UInt8) (s : ByteArray) : (Lib.splitB ⟨#[c]⟩ 0 (Lib.countB s ⟨#[c]⟩) s).map (fun x => x.data.toList) = M.splitBy c s.data.toList := by
  have h := Lib.splitB_data ⟨#[c]⟩ 0 (Lib.countB s ⟨#[c]⟩) s
  rw [show (fun x : ByteArray => x.data.toList) = (·.data.toList) from rfl, h]
  exact M.splitK_eq c _ _ (Lib.count_one c s.data.toList).symm
theorem M.strs_of (ps : List ByteArray) : ps.map Value.string = M.strs (ps.map fun x => x.data.toList) := by
  rw [M.strs, List.map_map]
  refine List.map_congr_left fun x _ => ?_
  show Value.string x = Value.string ⟨x.data.toList.toArray⟩
  rw [M.bs_mk']
theorem impl_Split (s : ByteArray) (c : UInt8) (w : World) (hs : s.size ≤ 1000000000) (hL : LAD w) :
    Calls Tryz.prog 41 #[.string s, .string ⟨#[c]⟩] w fun e w' => e = .returned (.slice (some ⟨w.heap.size, 0, none⟩) (M.splitBy c s.data.toList).length (M.splitBy c s.data.toList).length) ∧
      w'.ownsRow w.heap.size 9 1 (.slice (some ⟨w.heap.size, 0, none⟩) (M.splitBy c s.data.toList).length (M.splitBy c s.data.toList).length) (M.splitBy c s.data.toList).length (M.strs (M.splitBy c s.data.toList)) ∧ Below w.heap.size w w' ∧ w.heap.size < w'.heap.size := by
  obtain ⟨m, hm⟩ := hL.2.1
  have hlen : (M.splitBy c s.data.toList).length = Lib.countB s ⟨#[c]⟩ + 1 := by
    rw [← M.pieces, List.length_map]
    exact Lib.splitB_all ⟨#[c]⟩ (Nat.le_refl 1) 0 _ s rfl
  have hc : Lib.countB s ⟨#[c]⟩ ≤ s.size := Lib.countB_le ⟨#[c]⟩ (Nat.le_refl 1) s.size s (Nat.le_refl _)
  refine (Tryz.strings_Split s ⟨#[c]⟩ m w (by omega) hm (Nat.le_refl 1)).mono fun e w' h => ?_
  obtain ⟨rfl, rfl⟩ := h
  rw [hlen]
  refine ⟨rfl, ?_, (Below.refl _ _).alloc (Nat.le_refl _) _, by simp⟩
  rw [M.strs_of, M.pieces]
  refine ⟨by rw [M.strs_len, hlen, Nat.mul_one], .inr ⟨w.heap.size, Lib.countB s ⟨#[c]⟩ + 1, (M.strs (M.splitBy c s.data.toList)).toArray, rfl, Nat.le_refl _, heap_alloc_new w _, Nat.le_refl _, by unfold maxLen; omega, by simp [M.strs_len, hlen], ?_⟩⟩
  simp only [Nat.mul_one]
  exact (List.take_of_length_le (by rw [M.strs_len, hlen]; exact Nat.le_refl _))
theorem M.words_take {ps : List (List UInt8)} {k : Nat} {x : List UInt8} (h : ps[k]? = some x) : (ps.take (k + 1)).filter (fun w => !w.isEmpty) = (ps.take k).filter (fun w => !w.isEmpty) ++ (if x = [] then [] else [x]) := by
  rw [M.take_at h, List.filter_append]
  cases x <;> simp
theorem impl_SplitWords (s : ByteArray) (w : World) (hs : s.size ≤ 1000000000) (hL : LAD w) :
    Calls Tryz.prog 43 #[.string s] w fun e w' => ∃ v, e = .returned v ∧ w'.ownsRow w.heap.size 9 1 v (M.wordsOf s.data.toList).length (M.strs (M.wordsOf s.data.toList)) ∧ Below w.heap.size w w' := by
  have B0 : Below w.heap.size w (w.alloc (.cells #[] 9)) := (Below.refl _ _).alloc (Nat.le_refl _) _
  have sz0 : (w.alloc (.cells #[] 9)).heap.size = w.heap.size + 1 := by simp
  have hS := impl_Split s 32 _ hs (hL.on B0)
  have own0 : (w.alloc (.cells #[] 9)).ownsRow w.heap.size 9 1 (.slice (some ⟨w.heap.size, 0, none⟩) 0 0) 0 [] := World.ownsRow_made _ _ _ (Nat.le_refl _) (by simp [maxLen]) rfl
  obtain ⟨ps, hps⟩ : ∃ ps, ps = M.splitBy 32 s.data.toList := ⟨_, rfl⟩
  have hpl : ps.length ≤ s.size + 1 := by
    have h1 : ps.length = Lib.countB s ⟨#[32]⟩ + 1 := by
      rw [hps, ← M.pieces, List.length_map]
      exact Lib.splitB_all ⟨#[32]⟩ (Nat.le_refl 1) 0 _ s rfl
    have := Lib.countB_le ⟨#[32]⟩ (Nat.le_refl 1) s.size s (Nat.le_refl _)
    omega
  rw [← hps] at hS
  have HPS := Lib.hid hps
  have HS := Lib.hid hS
  have SZ0 := Lib.hid sz0
  clear hps hS sz0 hL
  go_enter Tryz.func43, Tryz.ntmps43
  go_wp2_with (go_at_call 41; refine HS.out.mono ?_; rintro e w2 ⟨rfl, ownp, b2, hlt2⟩)
  rw [SZ0.out] at ownp hlt2
  have own2 := own_below own0 b2
  have B2 := bel_trans B0 b2
  clear own0 b2 B0
  go_loopw [3, 10] (fun v i wr => ∃ k : Nat, i = .int .i64 k ∧ k ≤ ps.length ∧ wr.ownsRow w.heap.size 9 1 v ((ps.take k).filter (fun w => !w.isEmpty)).length (M.strs ((ps.take k).filter (fun w => !w.isEmpty))) ∧ Hid (v.ownBlock ≠ some (w.heap.size + 1)) ∧
      wr.ownsRow (w.heap.size + 1) 9 1 (.slice (some ⟨w.heap.size + 1, 0, none⟩) ps.length ps.length) ps.length (M.strs ps) ∧ w.heap.size + 1 < wr.heap.size ∧ Below w.heap.size w wr) (fun _ i _ => ps.length - (intOf i).toNat)
  case atStart => exact ⟨0, rfl, by omega, own2, Lib.hid (by simp [Value.ownBlock]), ownp, hlt2, B2⟩
  case round =>
    clear own2 ownp hlt2 B2
    obtain ⟨k, rfl, hk, own, HO, ownp, hsz, hb⟩ := hrel
    by_cases hlt : k < ps.length
    · have X := Lib.hid (List.getElem?_eq_getElem (l := ps) (i := k) hlt)
      generalize ps[k] = x at X
      have hcell : wr.cell? ⟨w.heap.size + 1, k, none⟩ = some (.string ⟨x.toArray⟩) := by
        have hadd : (⟨w.heap.size + 1, 0, none⟩ : Addr).add k = ⟨w.heap.size + 1, k, none⟩ := by unfold Addr.add; split <;> simp_all
        rw [← hadd]
        exact World.ownsRow.cells ownp (g := w.heap.size + 1) rfl k _ (by simp [M.strs, X.out])
      have HW := Lib.hid (M.words_take X.out)
      have hfl : ((ps.take k).filter (fun w => !w.isEmpty)).length ≤ k := by
        have := List.length_filter_le (fun w : List UInt8 => !w.isEmpty) (ps.take k)
        rw [List.length_take] at this
        omega
      by_cases hx : x = []
      · subst hx
        go_wp2
        go_roundw
        case rel =>
          refine ⟨k + 1, by go_num, by omega, ?_, HO, ownp, hsz, hb⟩
          rw [HW.out, if_pos rfl, List.append_nil]
          exact own
        case measure => simp [intOf]; omega
      · have e1 : (x == []) = false := by simpa using hx
        have HX := Lib.hid hx
        go_wp2_with (at_builtin; refine wpList_push1c ei_str rfl _ _ rfl own rfl rfl rfl (by unfold maxLen; omega) (by omega) hb.size ?_; intro v1 w1 own1 gr1 bel1 pl1)
        go_roundw
        case rel =>
          refine ⟨k + 1, by go_num, by omega, ?_, ?_, ?_, ?_, hb.trans bel1⟩
          · rw [HW.out, if_neg HX.out, List.length_append]
            rw [M.strs_push] at own1
            exact own1
          · refine Lib.hid fun e => ?_
            rcases pl1 with h | h
            · exact HO.out (h ▸ e)
            · have := h _ e; omega
          · exact World.ownsRow.kept ownp gr1 (Or.inr (fun e => HO.out (by rw [← e]; rfl)))
          · have := bel1.size; omega
        case measure => simp [intOf]; omega
    · obtain rfl : k = ps.length := by omega
      go_wp2
      go_ret
      rw [List.take_of_length_le (Nat.le_refl _)] at own
      refine ⟨_, rfl, ?_, hb⟩
      have e : M.wordsOf s.data.toList = ps.filter (fun w => !w.isEmpty) := by rw [M.wordsOf, ← HPS.out]
      rw [e]
      exact own
end Go.Proofs.YtecdendjlgohjaaGreatDoor
namespace Go.Proofs.YtecdendjlgohjaaGreatDoor
open Go.RowKit Go.Sort
set_option maxHeartbeats 4000000
set_option maxRecDepth 100000
theorem own_two (u : World) (a b : Value) {B : Nat} (hB : B ≤ u.heap.size) : (u.alloc (.cells #[a, b] 9)).ownsRow B 9 1 (.slice (some ⟨u.heap.size, 0, none⟩) 2 2) 2 [a, b] :=
  ⟨by simp, .inr ⟨u.heap.size, 2, #[a, b], rfl, hB, heap_alloc_new u _, Nat.le_refl _, by simp [maxLen], rfl, by simp⟩⟩
theorem own_three (u : World) (a b c : Value) {B : Nat} (hB : B ≤ u.heap.size) : (u.alloc (.cells #[a, b, c] 9)).ownsRow B 9 1 (.slice (some ⟨u.heap.size, 0, none⟩) 3 3) 3 [a, b, c] :=
  ⟨by simp, .inr ⟨u.heap.size, 3, #[a, b, c], rfl, hB, heap_alloc_new u _, Nat.le_refl _, by simp [maxLen], rfl, by simp⟩⟩
theorem impl_MixerText (A : Option Addr) (n c : Nat) (xs : List Strip) (w : World) (hx : tM.R w w.heap.size [.slice A n c] xs) (hn : hM.sz xs ≤ 100000000) (hT : TAB w) :
    Calls Tryz.prog 16 #[.agg #[.slice A n c]] w fun e w' => e = .returned (.string ⟨(M.mixerText xs).toArray⟩) ∧ Below w.heap.size w w' := by
  have rx := sl_R.1 hx
  have HLX := Lib.hid rx.cap.1
  have B0 : Below w.heap.size w (w.alloc (.cells #[.slice A n c] 24)) := (Below.refl _ _).alloc (Nat.le_refl _) _
  have HT := Lib.hid hT
  have hq : (w.alloc (.cells #[.slice A n c] 24)).cell? ⟨w.heap.size, 0, none⟩ = some (.slice A n c) := by simp [go_sem]
  cases hok : M.mixOk xs
  · have HOK := Lib.hid hok
    go_enter Tryz.func16, Tryz.ntmps16
    go_wp2_with (go_at_call 24; refine (impl_isMixer A n c xs _ (tM.later hx B0) hn).mono ?_; rw [hok]; rintro e w1 ⟨rfl, b1⟩)
    go_ret
    exact ⟨by rw [M.mixerText, HOK.out]; rfl, bel_trans B0 b1⟩
  · have HOK := Lib.hid hok
    have hmn := M.mix_n hok
    have hnb : 1 ≤ n ∧ n ≤ 8 := by have := HLX.out; omega
    go_enter Tryz.func16, Tryz.ntmps16
    go_wp2_with (go_at_call 24; refine (impl_isMixer A n c xs _ (tM.later hx B0) hn).mono ?_; rw [hok]; rintro e w1 ⟨rfl, b1⟩; have q1 : w1.cell? ⟨w.heap.size, 0, none⟩ = some (.slice A n c) := (by rw [b1.cell (by simp)]; exact hq); have s1 : w.heap.size + 1 ≤ w1.heap.size := (by have := b1.size; simpa using this))
    have B1 := bel_trans B0 b1
    clear hx hT hok b1 hq B0 hmn
    go_loopw [3, 15] (fun v i wr => ∃ k : Nat, i = .int .i64 k ∧ k ≤ n ∧ v = .string ⟨(M.mxT xs k).toArray⟩ ∧ wr.cell? ⟨w.heap.size, 0, none⟩ = some (.slice A n c) ∧ w.heap.size + 1 ≤ wr.heap.size ∧ Below w.heap.size w wr) (fun _ i _ => n - (intOf i).toNat)
    case atStart => exact ⟨0, rfl, by omega, rfl, q1, s1, B1⟩
    case round =>
      clear q1 s1 B1
      obtain ⟨k, rfl, hk, rfl, qw, sw, Bw⟩ := hrel
      by_cases hlt : k < n
      · have hX := Lib.hid (List.getElem?_eq_getElem (l := xs) (i := k) (by rw [HLX.out]; exact hlt))
        obtain ⟨b, o1, cc, cs, hv, hab, -, hE, hcc⟩ := (rx.below Bw).atX hX.out
        simp only [Value.slice.injEq] at hv
        obtain ⟨rfl, -, rfl⟩ := hv
        generalize xs[k]'(by rw [HLX.out]; exact hlt) = x at hX hE
        obtain ⟨s, l, us⟩ := x
        obtain ⟨A2, n2, c2, rfl, -, hE⟩ := st_R.1 hE
        have e0 : wr.cell? ⟨b, o1 + k * 3, none⟩ = some (.string s) := hcc 0 _ rfl
        have e1 : wr.cell? ⟨b, o1 + k * 3 + 1, none⟩ = some (.int .i64 l) := hcc 1 _ rfl
        have e2 : wr.cell? ⟨b, o1 + k * 3 + 2, none⟩ = some (.slice A2 n2 c2) := hcc 2 _ rfl
        have rs := (tSdS_ra hE).1
        have hn2 := rs.1
        obtain ⟨hlat, hu4, hsb⟩ := M.mix_strip HOK.out hX.out
        have HN2 := Lib.hid hn2
        have HSB := Lib.hid hsb
        have l0 : -9223372036854775808 ≤ l := by omega
        have l1 : l ≤ 9223372036854775807 := by omega
        have n2b : n2 ≤ 4 := by omega
        have g0 := M.mxT_le HOK.out k (by rw [HLX.out]; omega)
        have g1 := M.stT_le HOK.out hX.out us.length (Nat.le_refl _)
        rw [hn2] at g1
        have G0 := Lib.hid g0
        have G1 := Lib.hid g1
        have BU := bel_trans Bw ((Below.refl wr.heap.size wr).alloc (Nat.le_refl _) (.cells #[.string s, .int .i64 l, .slice A2 n2 c2] 44))
        have b0 : (wr.alloc (.cells #[.string s, .int .i64 l, .slice A2 n2 c2] 44)).cell? ⟨wr.heap.size, 0, none⟩ = some (.string s) := by rw [cell_of_row _ wr.heap.size 0 _ 44 (0, 0) (heap_alloc_new wr _)]; rfl
        have b1 : (wr.alloc (.cells #[.string s, .int .i64 l, .slice A2 n2 c2] 44)).cell? ⟨wr.heap.size, 1, none⟩ = some (.int .i64 l) := by rw [cell_of_row _ wr.heap.size 1 _ 44 (0, 0) (heap_alloc_new wr _)]; rfl
        have b2 : (wr.alloc (.cells #[.string s, .int .i64 l, .slice A2 n2 c2] 44)).cell? ⟨wr.heap.size, 2, none⟩ = some (.slice A2 n2 c2) := by rw [cell_of_row _ wr.heap.size 2 _ 44 (0, 0) (heap_alloc_new wr _)]; rfl
        have bq : (wr.alloc (.cells #[.string s, .int .i64 l, .slice A2 n2 c2] 44)).cell? ⟨w.heap.size, 0, none⟩ = some (.slice (some ⟨b, o1, none⟩) n c) := by rw [World.cell?_alloc_lt _ _ _ (by simp; omega)]; exact qw
        have sz : (wr.alloc (.cells #[.string s, .int .i64 l, .slice A2 n2 c2] 44)).heap.size = wr.heap.size + 1 := by simp
        clear hcc hn2 hu4 hsb hlat g0 g1
        go_wp2_with fail
        have BR : Below wr.heap.size wr (wr.alloc (.cells #[.string s, .int .i64 l, .slice A2 n2 c2] 44)) := (Below.refl _ _).alloc (Nat.le_refl _) _
        generalize hw4 : wr.alloc (.cells #[.string s, .int .i64 l, .slice A2 n2 c2] 44) = w4 at b0 b1 b2 bq sz BU BR ⊢
        have k0' := cell_regrown b0
        have k1' := cell_regrown b1
        clear hw4 e0 e1 e2
        (refine wp_region_fresh2 [0, 2] [1, 3] 1 (.one 4 .rest) [5] [5, 6] (by kernel_rfl) (by kernel_rfl) ?_; simp only [pickOps]; simp only [List.filterMap, List.getElem?_cons_succ, List.getElem?_cons_zero]; (repeat (go_big_quiet_step (fail))); refine wpQuiet_nil ?_; (repeat (go_big_quiet_step (fail))); refine wpQuiet_nil ?_)
        refine seqT_one2 rfl ?_
        have D1 : Below w4.heap.size w4 w4.drew := below_drewN (Below.refl _ _) 1
        go_wp2_with fail
        refine (impl_Decimal l l0 l1 _ (HT.out.on (bel_trans BU D1))).mono ?_
        rintro e u1 ⟨rfl, d1⟩
        have B3 := bel_trans D1 d1
        have s3 := B3.size
        have f2 : u1.cell? ⟨wr.heap.size, 2, none⟩ = some (.slice A2 n2 c2) := by rw [B3.cell (by simp; omega)]; exact b2
        have fq : u1.cell? ⟨w.heap.size, 0, none⟩ = some (.slice (some ⟨b, o1, none⟩) n c) := by rw [B3.cell (by simp; omega)]; exact bq
        clear k0' k1' b0 b1 b2 bq
        go_wp2_with fail
        refine ⟨regrown_of_below B3, ?_⟩
        refine seqT_rest2 ?_
        have B4 := (bel_trans BU B3).alloc (by have := (bel_trans BU B3).size; omega) (.cells #[.string s, .string ⟨(Lib.itoa l).toArray⟩] 9)
        have h2 : (u1.alloc (.cells #[.string s, .string ⟨(Lib.itoa l).toArray⟩] 9)).cell? ⟨wr.heap.size, 2, none⟩ = some (.slice A2 n2 c2) := by rw [World.cell?_alloc_lt _ _ _ (by simp; omega)]; exact f2
        have hq : (u1.alloc (.cells #[.string s, .string ⟨(Lib.itoa l).toArray⟩] 9)).cell? ⟨w.heap.size, 0, none⟩ = some (.slice (some ⟨b, o1, none⟩) n c) := by rw [World.cell?_alloc_lt _ _ _ (by simp; omega)]; exact fq
        have own0 := own_two u1 (.string s) (.string ⟨(Lib.itoa l).toArray⟩) (B := w.heap.size + 1) (by omega)
        go_wp2_with fail
        generalize hV : u1.alloc (.cells #[.string s, .string ⟨(Lib.itoa l).toArray⟩] 9) = V at B4 h2 hq own0 ⊢
        have own0' : V.ownsRow (w.heap.size + 1) 9 1 (.slice (some ⟨u1.heap.size, 0, none⟩) 2 2) (2 + 3 * 0) (M.strs (M.stW xs s l us 0)) := by
          have : M.strs (M.stW xs s l us 0) = [.string s, .string ⟨(Lib.itoa l).toArray⟩] := by rw [M.stW_zero]; simp only [M.strs, List.map_cons, List.map_nil, M.bs_mk]
          rw [this]
          exact own0
        have Bo0 : Below w.heap.size wr V := (((Below.refl w.heap.size wr).trans (BR.mono (by omega))).trans (B3.mono (by omega))).trans (by rw [← hV]; exact (Below.refl _ _).alloc (by omega) _)
        clear own0 hV h2 f2 fq BR
        obtain ⟨wo, rfl⟩ : ∃ wo : World, wo = wr := ⟨_, rfl⟩
        go_loopw [6, 28] (fun v i wr => ∃ j : Nat, i = .int .i64 j ∧ j ≤ n2 ∧ wr.ownsRow (w.heap.size + 1) 9 1 v (2 + 3 * j) (M.strs (M.stW xs s l us j)) ∧ wr.cell? ⟨w.heap.size, 0, none⟩ = some (.slice (some ⟨b, o1, none⟩) n c) ∧ w.heap.size + 1 ≤ wr.heap.size ∧ Below w.heap.size w wr ∧ Below w.heap.size wo wr) (fun _ i _ => n2 - (intOf i).toNat)
        case atStart => exact ⟨0, rfl, by omega, own0', hq, World.block_lt_of_cell? _ _ hq, B4, Bo0⟩
        case round =>
          clear own0' hq B4 Bo0
          obtain ⟨j, rfl, hj, own, vq, sv, Bv, Bo⟩ := hrel
          by_cases hlt2 : j < n2
          · obtain ⟨b2, o2, ⟨p0, p1⟩, rfl, hab2, X2, hdd⟩ := (rs.below Bo).at sd_len (by decide) hlt2
            have f0 : wr.cell? ⟨b2, o2 + j * 2, none⟩ = some (.int .i64 p0) := hdd 0 _ rfl
            have f1 : wr.cell? ⟨b2, o2 + j * 2 + 1, none⟩ = some (.int .i64 p1) := hdd 1 _ rfl
            obtain ⟨hp1, hp2, hp3⟩ := M.sends_at HSB.out X2.out
            have hp4 := M.inn_iffM.1 hp3
            obtain ⟨q, rfl⟩ : ∃ q : Nat, p0 = q := ⟨p0.toNat, by omega⟩
            have hqn : q < n := by have := HLX.out; omega
            have hY := Lib.hid (List.getElem?_eq_getElem (l := xs) (i := q) (by rw [HLX.out]; exact hqn))
            obtain ⟨b', o', cc', cs', hv', -, -, hE', hcc'⟩ := (rx.below Bv).atX hY.out
            simp only [Value.slice.injEq, Option.some.injEq, Addr.mk.injEq] at hv'
            obtain ⟨⟨rfl, rfl, -⟩, -, -⟩ := hv'
            generalize xs[q]'(by rw [HLX.out]; exact hqn) = y at hY hE'
            obtain ⟨s', l', us'⟩ := y
            obtain ⟨A3, n3, c3, rfl, -, -⟩ := st_R.1 hE'
            have g0 : wr.cell? ⟨b, o1 + q * 3, none⟩ = some (.string s') := hcc' 0 _ rfl
            have l2 : -9223372036854775808 ≤ p1 := by omega
            have l3 : p1 ≤ 9223372036854775807 := by omega
            have hW := Lib.hid (M.stW_next (ms := xs) (s := s) (l := l) X2.out)
            have hbb : b < wr.heap.size := World.block_lt_of_cell? _ _ g0
            obtain ⟨W4, hW4⟩ : ∃ W4, W4 = wr.alloc (.cells #[.int .i64 (q : Int), .int .i64 p1] 47) := ⟨_, rfl⟩
            have G2 : Below wr.heap.size wr W4 := by rw [hW4]; exact (Below.refl _ _).alloc (Nat.le_refl _) _
            have BW := bel_trans Bv G2
            have ownW := own_below own G2
            have m0 : W4.cell? ⟨wr.heap.size, 0, none⟩ = some (.int .i64 (q : Int)) := by rw [hW4, cell_of_row _ wr.heap.size 0 _ 47 (0, 0) (heap_alloc_new wr _)]; rfl
            have m1 : W4.cell? ⟨wr.heap.size, 1, none⟩ = some (.int .i64 p1) := by rw [hW4, cell_of_row _ wr.heap.size 1 _ 47 (0, 0) (heap_alloc_new wr _)]; rfl
            have mq : W4.cell? ⟨w.heap.size, 0, none⟩ = some (.slice (some ⟨b, o1, none⟩) n c) := by rw [G2.cell (by simp; omega)]; exact vq
            have mn : W4.cell? ⟨b, o1 + q * 3, none⟩ = some (.string s') := by rw [G2.cell (by simpa using hbb)]; exact g0
            have HW4 := Lib.hid hW4
            have hqn2 : (q : Int) < (n : Int) := by omega
            clear hW4 hdd hp1 hp2 hp3 hp4 hcc'
            go_wp2_with fail
            rw [← HW4.out]
            have k0' := cell_regrown m0
            have k1' := cell_regrown m1
            have k2' := cell_regrown mq
            have k3' := cell_regrown mn
            clear f0 f1 g0 m0 m1 mn
            (refine wp_region_fresh2 [0, 1, 3, 8] [2, 4, 5, 6, 7, 9] 2 (.one 10 (.one 11 .rest)) [12] [12, 13] (by kernel_rfl) (by kernel_rfl) ?_; simp only [pickOps]; simp only [List.filterMap, List.getElem?_cons_succ, List.getElem?_cons_zero]; (repeat (go_big_quiet_step (fail))); refine wpQuiet_nil ?_; (repeat (go_big_quiet_step (fail))); refine wpQuiet_nil ?_)
            refine seqT_one2 rfl ?_
            have D2 : Below W4.heap.size W4 W4.drew := below_drewN (Below.refl _ _) 1
            go_wp2_with fail
            refine (impl_Decimal p1 l2 l3 _ (HT.out.on (bel_trans BW D2))).mono ?_
            rintro e u2 ⟨rfl, d2⟩
            have B5 := bel_trans D2 d2
            have B6 := bel_trans BW B5
            have s6 := B6.size
            have own5 := own_below ownW B5
            clear k0' k1' k2' k3'
            go_wp2_with fail
            refine ⟨regrown_of_below B5, ?_⟩
            refine seqT_one2 rfl ?_
            go_wp2_with fail
            refine ⟨regrown_of_below (B5.alloc (by have := B5.size; omega) _), ?_⟩
            refine seqT_rest2 ?_
            have own6 := World.ownsRow.alloc own5 (.cells #[.string ⟨#[116, 111]⟩, .string s', .string ⟨(Lib.itoa p1).toArray⟩] 9)
            have own7 := Reads.of_own (own_three u2 (.string ⟨#[116, 111]⟩) (.string s') (.string ⟨(Lib.itoa p1).toArray⟩) (B := u2.heap.size) (Nat.le_refl _))
            go_wp2_with (at_builtin; refine wpList_cat ei_str rfl _ _ rfl own6 rfl own7 rfl (by simp [Value.oneCell']) (by unfold maxLen; omega) (by omega) (by simp; omega) ?_; intro v1 u3 own8 gr8 bel8)
            go_roundw
            case rel =>
              have B7 := (B5.alloc (by have := B5.size; omega) (.cells #[.string ⟨#[116, 111]⟩, .string s', .string ⟨(Lib.itoa p1).toArray⟩] 9))
              have B8 : Below (w.heap.size + 1) wr u3 := ((G2.mono sv).trans (B7.mono (by have := G2.size; omega))).trans bel8
              refine ⟨j + 1, by go_num, by omega, ?_, ?_, ?_, Bv.trans (B8.mono (by omega)), Bo.trans (B8.mono (by omega))⟩
              · have e : M.strs (M.stW xs s l us (j + 1)) = M.strs (M.stW xs s l us j) ++ [.string ⟨#[116, 111]⟩, .string s', .string ⟨(Lib.itoa p1).toArray⟩] := by
                  rw [hW.out]
                  simp only [M.strs, List.map_append, List.map_cons, List.map_nil, Int.toNat_natCast, M.nmAt, hY.out, Option.getD_some, M.bs_mk]
                rw [e]
                exact own8
              · rw [B8.cell (by simp)]; exact vq
              · have := B8.size; omega
            case measure => simp [intOf]; omega
          · obtain rfl : j = n2 := by omega
            have hlen : (M.stW xs s l us j).length = 2 + 3 * j := M.stW_len (by rw [HN2.out]; omega)
            rw [← hlen] at own
            have hg1 := G1.out
            have hg0 := G0.out
            have eT : Lib.join (M.stW xs s l us j) [32] = M.stT xs s l us us.length := by rw [HN2.out]; rfl
            obtain ⟨g, cap, rfl, hJ⟩ := join_own own [32] (by omega) (by omega) (by rw [eT, HN2.out]; omega)
            rw [hlen] at hJ ⊢
            rw [eT] at hJ
            have z0 : ¬ 9223372036854775807 < (M.stT xs s l us us.length).length + 1 := by rw [HN2.out]; omega
            have z1 : ¬ 9223372036854775807 < (M.mxT xs k).length + ((M.stT xs s l us us.length).length + 1) := by rw [HN2.out]; omega
            have hM := Lib.hid (M.mxT_next hX.out)
            clear hg0 hg1
            go_wp2_with (go_at_call 34; refine hJ.mono ?_; rintro e u3 ⟨rfl, e3⟩)
            go_roundw
            case rel =>
              refine ⟨k + 1, by go_num, by omega, ?_, ?_, ?_, bel_trans Bv e3⟩
              · rw [hM.out]
                refine congrArg Value.string ?_
                rw [show (⟨#[10]⟩ : ByteArray) = ⟨([10] : List UInt8).toArray⟩ from rfl, M.str_app (M.stT xs s l us us.length) [10], M.str_app]
              · rw [e3.cell (by show w.heap.size < _; omega)]; exact vq
              · have := e3.size; omega
            case measure => simp [intOf]; omega
      · obtain rfl : k = n := by omega
        go_wp2_with fail
        go_ret
        exact ⟨by rw [M.mixerText, if_pos HOK.out, HLX.out]; rfl, Bw⟩
end Go.Proofs.YtecdendjlgohjaaGreatDoor
namespace Go.Proofs.YtecdendjlgohjaaGreatDoor
open Go.RowKit Go.Sort
set_option maxHeartbeats 1000000
set_option maxRecDepth 100000
/-- A slice that reads as words: a part of a row of strings. -/
def tLn : Ty (List (List UInt8)) where
  s := 1
  pos := Nat.one_pos
  zero := []
  R w B cs x := ∃ A c, cs = [.slice A x.length c] ∧ x.length ≤ c ∧ c ≤ maxLen ∧ Reads w B 1 A x.length (M.strs x)
  O w F cs x := ∃ A c, cs = [.slice A x.length c] ∧ x.length ≤ c ∧ c ≤ maxLen ∧ Reads w w.heap.size 1 A x.length (M.strs x) ∧ ∀ ad, 0 < x.length → A = some ad → F ad.block
  rlen := by rintro w B cs x ⟨A, c, rfl, _⟩; rfl
  keep := by rintro w w' B cs x hk ⟨A, c, rfl, h1, h2, h3⟩; exact ⟨A, c, rfl, h1, h2, h3.keep hk⟩
  more := by rintro w B B' cs x hk ⟨A, c, rfl, h1, h2, h3⟩; exact ⟨A, c, rfl, h1, h2, h3.more hk⟩
  read := by rintro w F cs x ⟨A, c, rfl, h1, h2, h3, _⟩; exact ⟨A, c, rfl, h1, h2, h3⟩
  okeep := by
    rintro w w' F cs x hk ⟨A, c, rfl, h1, h2, h3, h4⟩
    refine ⟨A, c, rfl, h1, h2, ⟨h3.1, fun hn => ?_⟩, h4⟩
    obtain ⟨ad, rfl, hb, hc⟩ := h3.2 hn
    have hF := hk ad.block (h4 ad hn rfl)
    refine ⟨ad, rfl, ?_, fun j u hj => ?_⟩
    · have : w.heap[ad.block]? = some w.heap[ad.block] := Array.getElem?_eq_getElem hb
      rw [← hF] at this
      exact (Array.getElem?_eq_some_iff.1 this).1
    · rw [World.cell?_of_block (show w'.heap[(ad.add j).block]? = w.heap[(ad.add j).block]? by rw [block_of_add]; exact hF)]
      exact hc j u hj
  owide := by rintro w F F' cs x hk ⟨A, c, rfl, h1, h2, h3, h4⟩; exact ⟨A, c, rfl, h1, h2, h3, fun ad hn e => hk _ (h4 ad hn e)⟩
  ocells := by rintro w F cs x ⟨A, c, rfl, _⟩ u hu; simp only [List.mem_singleton] at hu; subst hu; rfl
  oreal := by
    rintro w F cs x ⟨A, c, rfl, h1, h2, h3, h4⟩
    refine ⟨A, c, rfl, h1, h2, h3, fun ad hn e => ⟨h4 ad hn e, ?_⟩⟩
    obtain ⟨ad', e', hb, _⟩ := h3.2 hn
    rw [e, Option.some.injEq] at e'
    rw [e']; exact hb
/-- The tail of a row of words of the call's own. -/
theorem tLn_tail {w : World} {B : Nat} {g c : Nat} {ls : List (List UInt8)} (h : w.ownsRow B 9 1 (.slice (some ⟨g, 0, none⟩) ls.length c) ls.length (M.strs ls)) (hk : 2 ≤ ls.length) (hc : ls.length ≤ c) (hm : c ≤ maxLen) :
    tLn.O w (fun b => b = g) [.slice (if c = 2 then some ⟨g, 0, none⟩ else some ⟨g, 2, none⟩) (ls.length - 2) (c - 2)] (ls.drop 2) := by
  have hr := Reads.cut (Reads.of_own h) (k := 2) (cap := c) hk hc
  refine ⟨_, c - 2, by rw [List.length_drop], by rw [List.length_drop]; omega, by omega, ?_, fun ad _ e => ?_⟩
  · rw [List.length_drop]
    have e1 : M.strs (ls.drop 2) = (M.strs ls).drop (2 * 1) := by simp [M.strs]
    rw [e1]
    exact hr
  · split at e
    · rw [← Option.some.inj e]
    · rw [← Option.some.inj e]
theorem tLn_cut {w : World} {F : Nat → Prop} {A : Option Addr} {n c : Nat} {x : List (List UInt8)} (h : tLn.O w F [.slice A n c] x) {k : Nat} (hk : k ≤ x.length) :
    tLn.O w F [.slice (if c = k then A else A.map (·.add k)) (n - k) (c - k)] (x.drop k) := by
  obtain ⟨A1, c1, e, h1, h2, h3, h4⟩ := h
  simp only [List.cons.injEq, Value.slice.injEq, and_true] at e
  obtain ⟨rfl, rfl, rfl⟩ := e
  have hr := Reads.cut h3 (k := k) (cap := c) hk h1
  rw [Nat.mul_one] at hr
  refine ⟨_, c - k, by rw [List.length_drop], by rw [List.length_drop]; omega, by omega, ?_, fun ad hn e => ?_⟩
  · rw [List.length_drop, show M.strs (x.drop k) = (M.strs x).drop k by simp [M.strs]]
    exact hr
  · rw [List.length_drop] at hn
    split at e
    · exact h4 ad (by omega) e
    · obtain ⟨a, ha, rfl⟩ := Option.map_eq_some_iff.1 e
      rw [block_of_add]
      exact h4 a (by omega) ha
/-! The stages of the two passes. -/
def M.stage (h f : List (List UInt8) → Strip) (Ws : List (List (List UInt8))) (i : Nat) : List Strip := (Ws.take i).map f ++ (Ws.drop i).map h
section
variable {h f : List (List UInt8) → Strip} {Ws : List (List (List UInt8))} {i : Nat} {W : List (List UInt8)}
theorem M.stage_zero : M.stage h f Ws 0 = Ws.map h := by simp [M.stage]
theorem M.stage_end (hi : Ws.length ≤ i) : M.stage h f Ws i = Ws.map f := by simp [M.stage, List.take_of_length_le hi, List.drop_eq_nil_of_le hi]
theorem M.stage_len : (M.stage h f Ws i).length = Ws.length := by simp [M.stage]; omega
theorem M.stage_at (hW : Ws[i]? = some W) : (M.stage h f Ws i)[i]? = some (h W) := by
  have hi := (List.getElem?_eq_some_iff.1 hW).1
  rw [M.stage, List.getElem?_append_right (by simp; omega), List.length_map, List.length_take, Nat.min_eq_left (by omega), Nat.sub_self, List.getElem?_map, List.getElem?_drop, Nat.add_zero, hW]
  rfl
theorem M.stage_next (hW : Ws[i]? = some W) : (M.stage h f Ws i).set i (f W) = M.stage h f Ws (i + 1) := by
  have hi := (List.getElem?_eq_some_iff.1 hW).1
  rw [M.stage, M.stage, M.take_at hW, List.map_append, List.set_append_right _ _ (by simp; omega), List.length_map, List.length_take, Nat.min_eq_left (by omega), Nat.sub_self]
  have hd : Ws.drop i = W :: Ws.drop (i + 1) := by rw [List.drop_eq_getElem_cons hi, (List.getElem?_eq_some_iff.1 hW).2]
  rw [hd]
  simp
theorem M.stage_names (hn : ∀ W, (f W).1 = (h W).1) : (M.stage h f Ws i).map (·.1) = (Ws.map h).map (·.1) := by
  rw [M.stage, List.map_append, List.map_map, List.map_map, List.map_map]
  have e : ∀ l : List (List (List UInt8)), l.map ((·.1) ∘ f) = l.map ((·.1) ∘ h) := fun l => List.map_congr_left fun W _ => hn W
  rw [e, ← List.map_append, List.take_append_drop]
theorem M.set_names {xs : List Strip} {x y : Strip} (hx : xs[i]? = some x) (hy : y.1 = x.1) : (xs.set i y).map (·.1) = xs.map (·.1) := by
  rw [List.map_set]
  apply List.ext_getElem?
  intro j
  rw [List.getElem?_set]
  split
  · rename_i e
    subst e
    have hi := (List.getElem?_eq_some_iff.1 hx).1
    rw [if_pos (by rw [List.length_map]; exact hi), List.getElem?_map, hx, hy]; rfl
  · rfl
end
/-! Sizes. -/
theorem M.splitBy_sum (c : UInt8) : ∀ l : List UInt8, ((M.splitBy c l).map List.length).sum ≤ l.length
  | [] => by simp [M.splitBy]
  | b :: l => by
    have ih := M.splitBy_sum c l
    have hne := M.splitBy_ne c l
    rw [M.splitBy]
    cases hx : M.splitBy c l with
    | nil => exact absurd hx hne
    | cons a r =>
      rw [hx] at ih
      simp only [List.map_cons, List.sum_cons] at ih
      split
      · simp only [List.map_cons, List.sum_cons, List.length_nil, List.length_cons]; omega
      · simp only [List.headD_cons, List.tail_cons, List.map_cons, List.sum_cons, List.length_cons]; omega
theorem M.size_mk (l : List UInt8) : (⟨l.toArray⟩ : ByteArray).size = l.length := by simp [ByteArray.size]
theorem M.split_len (c : UInt8) (s : ByteArray) : (M.splitBy c s.data.toList).length ≤ s.size + 1 := by
  have h1 : (M.splitBy c s.data.toList).length = Lib.countB s ⟨#[c]⟩ + 1 := by
    rw [← M.pieces, List.length_map]
    exact Lib.splitB_all ⟨#[c]⟩ (Nat.le_refl 1) 0 _ s rfl
  have h3 := Lib.countB_le ⟨#[c]⟩ (Nat.le_refl 1) s.size s (Nat.le_refl _)
  omega
theorem M.splitBy_cnt (c : UInt8) (l : List UInt8) : (M.splitBy c l).length ≤ l.length + 1 := by
  have := M.split_len c ⟨l.toArray⟩
  rwa [show (⟨l.toArray⟩ : ByteArray).data.toList = l by simp, M.size_mk] at this
theorem M.fits_set {Ls : List (List UInt8)} {X : List Strip} (h : M.fits Ls X) {k : Nat} {y : Strip} {L : List UInt8} (hL : Ls[k]? = some L) (hy : y.1.size ≤ L.length ∧ y.2.2.length ≤ L.length) : M.fits Ls (X.set k y) := by
  refine ⟨by rw [List.length_set]; exact h.1, fun i x L' hx hL' => ?_⟩
  rw [List.getElem?_set] at hx
  split at hx
  · rename_i e
    subst e
    split at hx
    · rw [hL] at hL'
      rw [← Option.some.inj hx, ← Option.some.inj hL']
      exact hy
    · cases hx
  · exact h.2 i x L' hx hL'
theorem M.wd_len {W : List (List UInt8)} {n : Nat} (h : ∀ x ∈ W, x.length ≤ n) (k : Nat) : (M.wd W k).length ≤ n := by
  rw [M.wd]
  cases hk : W[k]? with
  | none => simp
  | some x => exact h x (List.mem_of_getElem? hk)
theorem M.words_cnt (L : List UInt8) : (M.wordsOf L).length ≤ L.length + 1 := Nat.le_trans (List.length_filter_le _ _) (M.splitBy_cnt 32 L)
theorem M.cntW_le {W : List (List UInt8)} {n : Nat} (h : W.length ≤ n + 1) : M.cntW W ≤ n := by rw [M.cntW]; omega
theorem M.stage_in {h f : List (List UInt8) → Strip} {Ws : List (List (List UInt8))} {i j : Nat} {x : Strip} (hx : (M.stage h f Ws i)[j]? = some x) : ∃ W, Ws[j]? = some W ∧ (x = f W ∨ x = h W) := by
  rw [M.stage] at hx
  rcases Nat.lt_or_ge j ((Ws.take i).map f).length with hj | hj
  · rw [List.getElem?_append_left hj, List.getElem?_map] at hx
    obtain ⟨W, hW, rfl⟩ := Option.map_eq_some_iff.1 hx
    rw [List.length_map, List.length_take] at hj
    rw [List.getElem?_take, if_pos (by omega)] at hW
    exact ⟨W, hW, .inl rfl⟩
  · rw [List.getElem?_append_right hj, List.getElem?_map] at hx
    obtain ⟨W, hW, rfl⟩ := Option.map_eq_some_iff.1 hx
    rw [List.length_map, List.length_take] at hj hW
    rw [List.getElem?_drop] at hW
    refine ⟨W, ?_, .inr rfl⟩
    by_cases hi : i ≤ Ws.length
    · rw [Nat.min_eq_left hi] at hW hj
      rwa [show i + (j - i) = j by omega] at hW
    · rw [Nat.min_eq_right (by omega)] at hW hj
      rw [List.getElem?_eq_none (by omega)] at hW
      cases hW
/-- A strip whose first sends are read. -/
def M.partR (hs : List Strip) (W : List (List UInt8)) (j : Nat) : Strip := (⟨(M.wd W 0).toArray⟩, (M.num (M.wd W 1)).getD 0, M.sndsR hs W j)
theorem M.partR_zero (hs : List Strip) (W : List (List UInt8)) : M.partR hs W 0 = M.headR W := rfl
theorem M.partR_cnt (hs : List Strip) (W : List (List UInt8)) : M.partR hs W (M.cntW W) = M.fullR hs W := rfl
theorem M.partR_fits {hs : List Strip} {W : List (List UInt8)} {j n : Nat} (h : ∀ x ∈ W, x.length ≤ n) (hl : W.length ≤ n + 1) (hj : j ≤ M.cntW W) : (M.partR hs W j).1.size ≤ n ∧ (M.partR hs W j).2.2.length ≤ n := by
  refine ⟨?_, ?_⟩
  · show (⟨(M.wd W 0).toArray⟩ : ByteArray).size ≤ n
    rw [M.size_mk]; exact M.wd_len h 0
  · show (M.sndsR hs W j).length ≤ n
    rw [M.sndsR_len]
    exact Nat.le_trans hj (M.cntW_le hl)
theorem M.stage_fits {Ls : List (List UInt8)} {Ws : List (List (List UInt8))} {h : List (List UInt8) → Strip} {hs : List Strip} {i : Nat} (hl : Ws.length = Ls.length) (hb : ∀ (j : Nat) (W : List (List UInt8)) (L : List UInt8), Ws[j]? = some W → Ls[j]? = some L → (∀ x ∈ W, x.length ≤ L.length) ∧ W.length ≤ L.length + 1)
    (hh : ∀ W, (h W).1 = (⟨(M.wd W 0).toArray⟩ : ByteArray) ∧ (h W).2.2 = []) : M.fits Ls (M.stage h (M.fullR hs) Ws i) := by
  refine ⟨by rw [M.stage_len, hl], fun j x L hx hL => ?_⟩
  obtain ⟨W, hW, hx⟩ := M.stage_in hx
  obtain ⟨h1, h2⟩ := hb j W L hW hL
  rcases hx with rfl | rfl
  · rw [← M.partR_cnt]
    exact M.partR_fits h1 h2 (Nat.le_refl _)
  · rw [(hh W).1, (hh W).2, M.size_mk]
    exact ⟨M.wd_len h1 0, by simp⟩
def slLen : Value → Nat
  | .slice _ n _ => n
  | _ => 0
theorem M.gOk_all {W : List (List UInt8)} (h : ∀ t, t < M.cntW W → M.gOk W t = true) : (List.range (M.cntW W)).all (M.gOk W) = true := by
  rw [List.all_eq_true]
  exact fun t ht => h t (List.mem_range.1 ht)
theorem M.okI_gain {W : List (List UInt8)} {t : Nat} (ht : t < M.cntW W) (h : M.gOk W t = false) : M.okI W = false := by
  rw [M.okI]
  cases hall : (List.range (M.cntW W)).all (M.gOk W) with
  | false => simp
  | true =>
    have := List.all_eq_true.1 hall t (List.mem_range.2 ht)
    rw [h] at this; cases this
end Go.Proofs.YtecdendjlgohjaaGreatDoor
