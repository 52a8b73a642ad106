import Derived.Test.YtkainejbilbjfaaZPoolOwns2
import Derived.Test.YtkainejbilbjfaaProg
/-! The functions of the program, compiled. Printed by genfs.py, a program of this session, out of what `compF` comes to. -/
namespace Go.Ev
open Go.Proofs
set_option maxRecDepth 100000
abbrev f_gosem_cut_init : Nat := 2
abbrev f_w12_PoolExact : Nat := 3
abbrev f_w12_PoolOwns : Nat := 4
abbrev f_w12_PoolMemory : Nat := 5
abbrev f_w12_PoolAll : Nat := 6
abbrev f_w12_PoolPicks : Nat := 7
abbrev f_w12_awake : Nat := 8
abbrev f_pool_Build : Nat := 9
abbrev f_r12_Build : Nat := 10
abbrev f_w12_same : Nat := 11
abbrev f_pool_Free : Nat := 12
abbrev f_r12_Free : Nat := 13
abbrev f_pool_Pick : Nat := 14
abbrev f_r12_Pick : Nat := 15
abbrev f_w12_list : Nat := 16
abbrev f_pool_Own : Nat := 17
abbrev f_r12_Own : Nat := 18
abbrev f_w12_small : Nat := 19
abbrev f_span_Count : Nat := 20
abbrev f_span_Rank : Nat := 21
abbrev f_addr_Sub : Nat := 22
abbrev f_span_Sound : Nat := 23
abbrev f_addr_Cmp : Nat := 24
abbrev f_span_Has : Nat := 25
abbrev f_w12_few : Nat := 26
abbrev f_span_Put : Nat := 27
abbrev f_r03_Put : Nat := 28
abbrev f_r12_less : Nat := 29
abbrev f_span_Less : Nat := 30
abbrev f_r03_Sound : Nat := 31
abbrev f_addr_Mod : Nat := 32
abbrev f_span_Nth : Nat := 33
abbrev f_r03_Count : Nat := 34
abbrev f_r01_Mod : Nat := 35
abbrev f_r03_Nth : Nat := 36
abbrev f_slices_SortFunc_Addr : Nat := 37
abbrev f_slices_Compact_Addr : Nat := 38
abbrev f_r12_with : Nat := 39
abbrev f_addr_Add : Nat := 40
abbrev f_span_one : Nat := 41
abbrev f_span_Drop : Nat := 42
abbrev f_span_isRange : Nat := 44
abbrev f_span_apart : Nat := 45
abbrev f_cmp_Or_int : Nat := 46
abbrev f_cmp_Compare_uint64 : Nat := 47
abbrev f_slices_ContainsFunc_Range : Nat := 48
abbrev f_span_Has_1 : Nat := 49
abbrev f_span_below : Nat := 50
abbrev f_slices_Concat_Range : Nat := 51
abbrev f_r03_le : Nat := 52
abbrev f_r03_made : Nat := 53
abbrev f_r03_Drop : Nat := 54
abbrev f_r12_one : Nat := 55
abbrev f_slices_Clone_Range : Nat := 56
abbrev f_r03_next : Nat := 57
abbrev f_bits_Div64 : Nat := 58
abbrev f_bits_LeadingZeros64 : Nat := 59
abbrev f_addr_Up : Nat := 60
abbrev f_r01_Add : Nat := 61
abbrev f_r03_size : Nat := 62
abbrev f_r01_bit : Nat := 63
abbrev f_r01_Up : Nat := 64
abbrev f_r01_with : Nat := 65
abbrev f_r01_Cmp : Nat := 66
abbrev f_r01_Sub : Nat := 67
abbrev f_r03_ahead : Nat := 68
abbrev f_slices_pdqsortCmpFunc_Addr : Nat := 69
abbrev f_bits_Len : Nat := 70
abbrev f_cmp_isNaN_uint64 : Nat := 72
abbrev f_slices_IndexFunc_Range : Nat := 73
abbrev f_slices_Grow_Range : Nat := 74
abbrev f_r03_edges : Nat := 75
abbrev f_r03_in : Nat := 76
abbrev f_bits_Len64 : Nat := 77
abbrev f_slices_insertionSortCmpFunc_Addr : Nat := 78
abbrev f_slices_heapSortCmpFunc_Addr : Nat := 79
abbrev f_slices_breakPatternsCmpFunc_Addr : Nat := 80
abbrev f_slices_choosePivotCmpFunc_Addr : Nat := 81
abbrev f_slices_reverseRangeCmpFunc_Addr : Nat := 82
abbrev f_slices_partialInsertionSortCmpFunc_Addr : Nat := 83
abbrev f_slices_partitionEqualCmpFunc_Addr : Nat := 84
abbrev f_slices_partitionCmpFunc_Addr : Nat := 85
abbrev f_bits_Len32 : Nat := 86
abbrev f_r03_with : Nat := 87
abbrev f_slices_siftDownCmpFunc_Addr : Nat := 88
abbrev f_slices_nextPowerOfTwo : Nat := 89
abbrev f_slices_xorshift_Next : Nat := 90
abbrev f_slices_medianAdjacentCmpFunc_Addr : Nat := 91
abbrev f_slices_medianCmpFunc_Addr : Nat := 92
abbrev f_slices_order2CmpFunc_Addr : Nat := 93
/-- gosem.cut.init -/
def r_gosem_cut_init : RF :=
  ⟨1, [], (.reg [⟨(some 0), none, (.call 1 [])⟩])⟩
theorem c_gosem_cut_init : compF Try.prog ⟨some 71, some 43⟩ Try.f2 = some r_gosem_cut_init := by kernel_rfl
/-- tenancy/tenancylaw12.PoolExact -/
def r_w12_PoolExact : RF :=
  ⟨87, [(.tmp 6)], (.seq (.reg [⟨(some 6), none, (.mv (.k (.bool false)))⟩]) (.seq (.seq (.reg [⟨(some 15), none, (.call f_w12_awake [])⟩, ⟨(some 16), none, (.un .not (.t 15))⟩]) 
  (.cond (.t 16) (.seq (.reg [⟨(some 6), none, (.mv (.k (.bool false)))⟩]) .ret) .skip)) (.seq (.seq (.reg [⟨(some 17), none, (.mv (.t 0))⟩, ⟨(some 18), none, (.lenl (.t 17))⟩, 
  ⟨(some 19), none, (.bin .gtr (.t 18) (.k (.int .i64 100)))⟩, ⟨(some 20), none, (.mv (.t 19))⟩, ⟨(some 21), (some (20, false)), (.mv (.t 1))⟩, 
  ⟨(some 22), (some (20, false)), (.lenl (.t 21))⟩, ⟨(some 23), (some (20, false)), (.bin .gtr (.t 22) (.k (.int .i64 100)))⟩, 
  ⟨(some 24), none, (.pick (.t 20) (.k (.bool true)) (.t 23))⟩]) (.cond (.t 24) (.seq (.reg [⟨(some 6), none, (.mv (.k (.bool true)))⟩]) .ret) .skip)) (.seq 
  (.reg [⟨(some 26), none, (.mv (.t 0))⟩, ⟨(some 27), none, (.mv (.t 1))⟩, ⟨(some 28), none, (.call f_pool_Build [(.t 26), (.t 27)])⟩, ⟨(some 25), none, (.mv (.t 28))⟩, 
  ⟨(some 29), none, (.ext 0 (.t 25))⟩, ⟨(some 30), none, (.ext 1 (.t 25))⟩, ⟨(some 7), none, (.mv (.t 29))⟩, ⟨(some 8), none, (.mv (.t 30))⟩]) (.seq 
  (.reg [⟨(some 32), none, (.mv (.t 0))⟩, ⟨(some 33), none, (.mv (.t 1))⟩, ⟨(some 34), none, (.call f_r12_Build [(.t 32), (.t 33)])⟩, ⟨(some 31), none, (.mv (.t 34))⟩, 
  ⟨(some 35), none, (.ext 0 (.t 31))⟩, ⟨(some 36), none, (.ext 1 (.t 31))⟩, ⟨(some 9), none, (.mv (.t 35))⟩, ⟨(some 10), none, (.mv (.t 36))⟩]) (.seq (.seq 
  (.reg [⟨(some 37), none, (.mv (.t 7))⟩, ⟨(some 38), none, (.mv (.t 9))⟩, ⟨(some 39), none, (.call f_w12_same [(.t 37), (.t 38)])⟩, ⟨(some 40), none, (.un .not (.t 39))⟩, 
  ⟨(some 41), none, (.mv (.t 40))⟩, ⟨(some 42), (some (41, false)), (.mv (.t 8))⟩, ⟨(some 43), (some (41, false)), (.mv (.t 10))⟩, 
  ⟨(some 44), (some (41, false)), (.eq true .i (.t 42) (.t 43))⟩, ⟨(some 45), none, (.pick (.t 41) (.k (.bool true)) (.t 44))⟩]) (.cond (.t 45) (.seq 
  (.reg [⟨(some 6), none, (.mv (.k (.bool false)))⟩]) .ret) .skip)) (.seq (.reg [⟨(some 47), none, (.mv (.t 0))⟩, ⟨(some 48), none, (.mv (.t 1))⟩, 
  ⟨(some 49), none, (.call f_pool_Free [(.t 47), (.t 48)])⟩, ⟨(some 46), none, (.mv (.t 49))⟩, ⟨(some 50), none, (.ext 0 (.t 46))⟩, ⟨(some 51), none, (.ext 1 (.t 46))⟩, 
  ⟨(some 7), none, (.mv (.t 50))⟩, ⟨(some 8), none, (.mv (.t 51))⟩]) (.seq (.reg [⟨(some 53), none, (.mv (.t 0))⟩, ⟨(some 54), none, (.mv (.t 1))⟩, 
  ⟨(some 55), none, (.call f_r12_Free [(.t 53), (.t 54)])⟩, ⟨(some 52), none, (.mv (.t 55))⟩, ⟨(some 56), none, (.ext 0 (.t 52))⟩, ⟨(some 57), none, (.ext 1 (.t 52))⟩, 
  ⟨(some 9), none, (.mv (.t 56))⟩, ⟨(some 10), none, (.mv (.t 57))⟩]) (.seq (.seq (.reg [⟨(some 58), none, (.mv (.t 7))⟩, ⟨(some 59), none, (.mv (.t 9))⟩, 
  ⟨(some 60), none, (.call f_w12_same [(.t 58), (.t 59)])⟩, ⟨(some 61), none, (.un .not (.t 60))⟩, ⟨(some 62), none, (.mv (.t 61))⟩, ⟨(some 63), (some (62, false)), (.mv (.t 8))⟩, 
  ⟨(some 64), (some (62, false)), (.mv (.t 10))⟩, ⟨(some 65), (some (62, false)), (.eq true .i (.t 63) (.t 64))⟩, ⟨(some 66), none, (.pick (.t 62) (.k (.bool true)) (.t 65))⟩]) 
  (.cond (.t 66) (.seq (.reg [⟨(some 6), none, (.mv (.k (.bool false)))⟩]) .ret) .skip)) (.seq (.reg [⟨(some 68), none, (.mv (.t 0))⟩, ⟨(some 69), none, (.mv (.t 2))⟩, 
  ⟨(some 70), none, (.call f_pool_Pick [(.t 68), (.t 69)])⟩, ⟨(some 67), none, (.mv (.t 70))⟩, ⟨(some 71), none, (.ext 0 (.t 67))⟩, ⟨(some 72), none, (.ext 1 (.t 67))⟩, 
  ⟨(some 11), none, (.new [(.int .u64 0), (.int .u64 0)])⟩, ⟨none, none, (.st (some 2) (.t 11) (.t 71))⟩, ⟨(some 12), none, (.mv (.t 72))⟩]) (.seq 
  (.reg [⟨(some 74), none, (.mv (.t 0))⟩, ⟨(some 75), none, (.mv (.t 2))⟩, ⟨(some 76), none, (.call f_r12_Pick [(.t 74), (.t 75)])⟩, ⟨(some 73), none, (.mv (.t 76))⟩, 
  ⟨(some 77), none, (.ext 0 (.t 73))⟩, ⟨(some 78), none, (.ext 1 (.t 73))⟩, ⟨(some 13), none, (.new [(.int .u64 0), (.int .u64 0)])⟩, ⟨none, none, (.st (some 2) (.t 13) (.t 77))⟩, 
  ⟨(some 14), none, (.mv (.t 78))⟩]) (.seq (.reg [⟨(some 79), none, (.ld (some 2) (.t 11))⟩, ⟨(some 80), none, (.ld (some 2) (.t 13))⟩, 
  ⟨(some 81), none, (.eq false (.st (.one 0 .i (.one 1 .i .nil))) (.t 79) (.t 80))⟩, ⟨(some 82), none, (.mv (.t 81))⟩, ⟨(some 83), (some (82, true)), (.mv (.t 12))⟩, 
  ⟨(some 84), (some (82, true)), (.mv (.t 14))⟩, ⟨(some 85), (some (82, true)), (.eq false .b (.t 83) (.t 84))⟩, ⟨(some 86), none, (.pick (.t 82) (.t 85) (.k (.bool false)))⟩, 
  ⟨(some 6), none, (.mv (.t 86))⟩]) .ret))))))))))))⟩
theorem c_w12_PoolExact : compF Try.prog ⟨some 71, some 43⟩ Try.f3 = some r_w12_PoolExact := by kernel_rfl
/-- tenancy/tenancylaw12.PoolOwns -/
def r_w12_PoolOwns : RF :=
  ⟨30, [(.tmp 4)], (.seq (.reg [⟨(some 4), none, (.mv (.k (.bool false)))⟩]) (.seq (.seq (.reg [⟨(some 6), none, (.call f_w12_awake [])⟩, ⟨(some 7), none, (.un .not (.t 6))⟩]) 
  (.cond (.t 7) (.seq (.reg [⟨(some 4), none, (.mv (.k (.bool false)))⟩]) .ret) .skip)) (.seq (.seq (.reg [⟨(some 8), none, (.mv (.t 0))⟩, ⟨(some 9), none, (.lenl (.t 8))⟩, 
  ⟨(some 10), none, (.bin .gtr (.t 9) (.k (.int .i64 100)))⟩]) (.cond (.t 10) (.seq (.reg [⟨(some 4), none, (.mv (.k (.bool true)))⟩]) .ret) .skip)) (.seq (.seq 
  (.reg [⟨(some 5), none, (.mv (.k (.int .i64 0)))⟩]) (.block 0 (.loop (.seq (.seq (.reg [⟨(some 11), none, (.mv (.t 5))⟩, 
  ⟨(some 12), none, (.bin .lss (.t 11) (.k (.int .i64 6)))⟩]) (.cond (.t 12) .skip (.exit 0))) (.seq (.block 1 (.seq (.reg [⟨(some 15), none, (.mv (.t 0))⟩, 
  ⟨(some 16), none, (.mv (.t 5))⟩, ⟨(some 17), none, (.call f_pool_Own [(.t 15), (.t 16)])⟩, ⟨(some 18), none, (.mv (.t 0))⟩, ⟨(some 19), none, (.mv (.t 5))⟩, 
  ⟨(some 20), none, (.call f_r12_Own [(.t 18), (.t 19)])⟩, ⟨(some 21), none, (.call f_w12_list [(.t 17), (.t 20)])⟩, ⟨(some 22), none, (.un .not (.t 21))⟩]) (.cond (.t 22) (.seq 
  (.reg [⟨(some 4), none, (.mv (.k (.bool false)))⟩]) .ret) .skip))) (.reg [⟨(some 13), none, (.mv (.t 5))⟩, ⟨(some 14), none, (.bin .add (.t 13) (.k (.int .i64 1)))⟩, 
  ⟨(some 5), none, (.mv (.t 14))⟩])))))) (.seq (.reg [⟨(some 23), none, (.mv (.t 0))⟩, ⟨(some 24), none, (.mv (.t 1))⟩, ⟨(some 25), none, (.call f_pool_Own [(.t 23), (.t 24)])⟩, 
  ⟨(some 26), none, (.mv (.t 0))⟩, ⟨(some 27), none, (.mv (.t 1))⟩, ⟨(some 28), none, (.call f_r12_Own [(.t 26), (.t 27)])⟩, 
  ⟨(some 29), none, (.call f_w12_list [(.t 25), (.t 28)])⟩, ⟨(some 4), none, (.mv (.t 29))⟩]) .ret)))))⟩
theorem c_w12_PoolOwns : compF Try.prog ⟨some 71, some 43⟩ Try.f4 = some r_w12_PoolOwns := by kernel_rfl
/-- tenancy/tenancylaw12.PoolMemory -/
def r_w12_PoolMemory : RF :=
  ⟨148, [(.tmp 4)], (.seq (.reg [⟨(some 4), none, (.mv (.k (.bool false)))⟩]) (.seq (.seq (.reg [⟨(some 18), none, (.call f_w12_awake [])⟩, ⟨(some 19), none, (.un .not (.t 18))⟩]) 
  (.cond (.t 19) (.seq (.reg [⟨(some 4), none, (.mv (.k (.bool false)))⟩]) .ret) .skip)) (.seq (.seq (.reg [⟨(some 20), none, (.mv (.t 0))⟩, ⟨(some 21), none, (.lenl (.t 20))⟩, 
  ⟨(some 22), none, (.bin .gtr (.t 21) (.k (.int .i64 100)))⟩, ⟨(some 23), none, (.mv (.t 22))⟩, ⟨(some 24), (some (23, false)), (.mv (.t 1))⟩, 
  ⟨(some 25), (some (23, false)), (.lenl (.t 24))⟩, ⟨(some 26), (some (23, false)), (.bin .gtr (.t 25) (.k (.int .i64 100)))⟩, 
  ⟨(some 27), none, (.pick (.t 23) (.k (.bool true)) (.t 26))⟩]) (.cond (.t 27) (.seq (.reg [⟨(some 4), none, (.mv (.k (.bool true)))⟩]) .ret) .skip)) (.seq 
  (.reg [⟨(some 28), none, (.mv (.t 0))⟩, ⟨(some 29), none, (.lenl (.t 28))⟩, ⟨(some 5), none, (.mv (.t 29))⟩]) (.seq (.reg [⟨(some 30), none, (.mv (.t 5))⟩, 
  ⟨(some 31), none, (.bin .add (.t 30) (.k (.int .i64 1)))⟩, ⟨(some 32), none, (.mks 4 32 [(.int .u64 0), (.int .u64 0), (.int .u64 0), (.int .u64 0)] (.k (.int .i64 0)) (.t 31))⟩, 
  ⟨(some 6), none, (.mv (.t 32))⟩]) (.seq (.reg [⟨(some 33), none, (.mv (.t 6))⟩, ⟨(some 34), none, (.mv (.t 0))⟩, ⟨(some 35), none, (.app 4 32 (.t 33) (.t 34))⟩, 
  ⟨(some 6), none, (.mv (.t 35))⟩]) (.seq (.reg [⟨(some 36), none, (.mv (.t 6))⟩, ⟨(some 37), none, (.call f_w12_small [(.k (.int .u64 71)), (.k (.int .u64 71))])⟩, 
  ⟨(some 38), none, (.bsl 4 1 [(.int .u64 0), (.int .u64 0), (.int .u64 0), (.int .u64 0)] [(0, (4, (.t 37)))])⟩, ⟨(some 39), none, (.app 4 32 (.t 36) (.t 38))⟩, 
  ⟨(some 6), none, (.mv (.t 39))⟩]) (.seq (.reg [⟨(some 40), none, (.mv (.t 1))⟩, ⟨(some 41), none, (.lenl (.t 40))⟩, ⟨(some 7), none, (.mv (.t 41))⟩]) (.seq 
  (.reg [⟨(some 42), none, (.mv (.t 7))⟩, ⟨(some 43), none, (.bin .add (.t 42) (.k (.int .i64 1)))⟩, 
  ⟨(some 44), none, (.mks 2 16 [(.int .u64 0), (.int .u64 0)] (.k (.int .i64 0)) (.t 43))⟩, ⟨(some 8), none, (.mv (.t 44))⟩]) (.seq (.reg [⟨(some 45), none, (.mv (.t 8))⟩, 
  ⟨(some 46), none, (.mv (.t 1))⟩, ⟨(some 47), none, (.app 2 16 (.t 45) (.t 46))⟩, ⟨(some 8), none, (.mv (.t 47))⟩]) (.seq (.reg [⟨(some 48), none, (.mv (.t 8))⟩, 
  ⟨(some 49), none, (.bld [(.int .u64 0), (.int .u64 0)] [(1, (1, (.k (.int .u64 72))))])⟩, ⟨(some 50), none, (.bsl 2 1 [(.int .u64 0), (.int .u64 0)] [(0, (2, (.t 49)))])⟩, 
  ⟨(some 51), none, (.app 2 16 (.t 48) (.t 50))⟩, ⟨(some 8), none, (.mv (.t 51))⟩]) (.seq (.drw 0 [⟨⟨(some 53), none, (.mv (.t 6))⟩, .pure, [], []⟩, 
  ⟨⟨(some 54), none, (.mv (.t 5))⟩, .pure, [], []⟩, ⟨⟨(some 55), none, (.slc 4 (.t 53) none (some (.t 54)) none)⟩, .pure, [], []⟩, ⟨⟨(some 56), none, (.mv (.t 8))⟩, .pure, [], []⟩, 
  ⟨⟨(some 57), none, (.mv (.t 7))⟩, .pure, [], []⟩, ⟨⟨(some 58), none, (.slc 2 (.t 56) none (some (.t 57)) none)⟩, .pure, [], []⟩, 
  ⟨⟨(some 59), none, (.call f_pool_Build [(.t 55), (.t 58)])⟩, .eff, [], []⟩, ⟨⟨(some 52), none, (.mv (.t 59))⟩, .pure, [], []⟩, 
  ⟨⟨(some 60), none, (.ext 0 (.t 52))⟩, .pure, [], []⟩, ⟨⟨(some 61), none, (.ext 1 (.t 52))⟩, .pure, [], []⟩, ⟨⟨(some 9), none, (.mv (.t 60))⟩, .pure, [], []⟩, 
  ⟨⟨(some 10), none, (.mv (.t 61))⟩, .pure, [], []⟩]) (.seq (.drw 0 [⟨⟨(some 63), none, (.mv (.t 6))⟩, .pure, [], []⟩, ⟨⟨(some 64), none, (.mv (.t 5))⟩, .pure, [], []⟩, 
  ⟨⟨(some 65), none, (.slc 4 (.t 63) none (some (.t 64)) none)⟩, .pure, [], []⟩, ⟨⟨(some 66), none, (.mv (.t 8))⟩, .pure, [], []⟩, ⟨⟨(some 67), none, (.mv (.t 7))⟩, .pure, [], []⟩, 
  ⟨⟨(some 68), none, (.slc 2 (.t 66) none (some (.t 67)) none)⟩, .pure, [], []⟩, ⟨⟨(some 69), none, (.call f_pool_Build [(.t 65), (.t 68)])⟩, .eff, [], []⟩, 
  ⟨⟨(some 62), none, (.mv (.t 69))⟩, .pure, [], []⟩, ⟨⟨(some 70), none, (.ext 0 (.t 62))⟩, .pure, [], []⟩, ⟨⟨(some 71), none, (.ext 1 (.t 62))⟩, .pure, [], []⟩, 
  ⟨⟨(some 11), none, (.mv (.t 70))⟩, .pure, [], []⟩, ⟨⟨(some 12), none, (.mv (.t 71))⟩, .pure, [], []⟩]) (.seq (.seq (.drw 0 [⟨⟨(some 72), none, (.mv (.t 10))⟩, .pure, [], []⟩, 
  ⟨⟨(some 73), none, (.mv (.t 12))⟩, .pure, [], []⟩, ⟨⟨(some 74), none, (.eq true .i (.t 72) (.t 73))⟩, .pure, [], []⟩, ⟨⟨(some 75), none, (.mv (.t 74))⟩, .pure, [], []⟩, 
  ⟨⟨(some 76), (some (75, false)), (.mv (.t 9))⟩, .pure, [], []⟩, ⟨⟨(some 77), (some (75, false)), (.mv (.t 11))⟩, .pure, [], []⟩, 
  ⟨⟨(some 78), (some (75, false)), (.call f_w12_same [(.t 76), (.t 77)])⟩, .eff, [], []⟩, ⟨⟨(some 79), (some (75, false)), (.un .not (.t 78))⟩, .pure, [], []⟩, 
  ⟨⟨(some 80), none, (.pick (.t 75) (.k (.bool true)) (.t 79))⟩, .pure, [], []⟩, ⟨⟨(some 81), none, (.mv (.t 80))⟩, .pure, [], []⟩, 
  ⟨⟨(some 82), (some (81, false)), (.mv (.t 6))⟩, .pure, [], []⟩, ⟨⟨(some 83), (some (81, false)), (.mv (.t 5))⟩, .pure, [], []⟩, 
  ⟨⟨(some 84), (some (81, false)), (.slc 4 (.t 82) none (some (.t 83)) none)⟩, .pure, [], []⟩, ⟨⟨(some 85), (some (81, false)), (.mv (.t 0))⟩, .pure, [], []⟩, 
  ⟨⟨(some 86), (some (81, false)), (.call f_w12_same [(.t 84), (.t 85)])⟩, .eff, [], []⟩, ⟨⟨(some 87), (some (81, false)), (.un .not (.t 86))⟩, .pure, [], []⟩, 
  ⟨⟨(some 88), none, (.pick (.t 81) (.k (.bool true)) (.t 87))⟩, .pure, [], []⟩, ⟨⟨(some 89), none, (.mv (.t 88))⟩, .pure, [], []⟩, 
  ⟨⟨(some 90), (some (89, false)), (.mv (.t 8))⟩, .pure, [], []⟩, ⟨⟨(some 91), (some (89, false)), (.mv (.t 7))⟩, .pure, [], []⟩, 
  ⟨⟨(some 92), (some (89, false)), (.slc 2 (.t 90) none (some (.t 91)) none)⟩, .pure, [], []⟩, ⟨⟨(some 93), (some (89, false)), (.mv (.t 1))⟩, .pure, [], []⟩, 
  ⟨⟨(some 94), (some (89, false)), (.call f_w12_list [(.t 92), (.t 93)])⟩, .eff, [], []⟩, ⟨⟨(some 95), (some (89, false)), (.un .not (.t 94))⟩, .pure, [], []⟩, 
  ⟨⟨(some 96), none, (.pick (.t 89) (.k (.bool true)) (.t 95))⟩, .pure, [], []⟩, ⟨⟨(some 97), none, (.mv (.t 96))⟩, .pure, [], []⟩, 
  ⟨⟨(some 98), (some (97, false)), (.mv (.t 6))⟩, .pure, [], []⟩, ⟨⟨(some 99), (some (97, false)), (.mv (.t 5))⟩, .pure, [], []⟩, 
  ⟨⟨(some 100), (some (97, false)), (.ixa 4 (.t 98) (.t 99))⟩, .pure, [], []⟩, ⟨⟨(some 101), (some (97, false)), (.ld (some 4) (.t 100))⟩, .ld, [], []⟩, 
  ⟨⟨(some 102), (some (97, false)), (.call f_w12_small [(.k (.int .u64 71)), (.k (.int .u64 71))])⟩, .eff, [29], []⟩, 
  ⟨⟨(some 103), (some (97, false)), (.eq true (.st (.sub 0 2 (.st (.one 0 .i (.one 1 .i .nil))) (.sub 2 2 (.st (.one 0 .i (.one 1 .i .nil))) .nil))) (.t 101) (.t 102))⟩, .pure, [], []⟩, 
  ⟨⟨(some 104), none, (.pick (.t 97) (.k (.bool true)) (.t 103))⟩, .pure, [], []⟩, ⟨⟨(some 105), none, (.mv (.t 104))⟩, .pure, [], []⟩, 
  ⟨⟨(some 106), (some (105, false)), (.mv (.t 8))⟩, .pure, [], []⟩, ⟨⟨(some 107), (some (105, false)), (.mv (.t 7))⟩, .pure, [], []⟩, 
  ⟨⟨(some 108), (some (105, false)), (.ixa 2 (.t 106) (.t 107))⟩, .pure, [], []⟩, ⟨⟨(some 109), (some (105, false)), (.ld (some 2) (.t 108))⟩, .ld, [], []⟩, 
  ⟨⟨(some 110), (some (105, false)), (.bld [(.int .u64 0), (.int .u64 0)] [(1, (1, (.k (.int .u64 72))))])⟩, .pure, [37], []⟩, 
  ⟨⟨(some 111), (some (105, false)), (.eq true (.st (.one 0 .i (.one 1 .i .nil))) (.t 109) (.t 110))⟩, .pure, [], []⟩, 
  ⟨⟨(some 112), none, (.pick (.t 105) (.k (.bool true)) (.t 111))⟩, .pure, [], []⟩]) (.cond (.t 112) (.seq (.reg [⟨(some 4), none, (.mv (.k (.bool false)))⟩]) .ret) .skip)) (.seq 
  (.reg [⟨(some 114), none, (.mv (.t 9))⟩, ⟨(some 115), none, (.call f_pool_Free [(.t 114), (.k .nils)])⟩, ⟨(some 113), none, (.mv (.t 115))⟩, ⟨(some 116), none, (.ext 0 (.t 113))⟩, 
  ⟨(some 117), none, (.ext 1 (.t 113))⟩, ⟨(some 13), none, (.mv (.t 116))⟩, ⟨(some 14), none, (.mv (.t 117))⟩]) (.seq 
  (.reg [⟨(some 118), none, (.bsl 4 0 [(.int .u64 0), (.int .u64 0), (.int .u64 0), (.int .u64 0)] [])⟩, ⟨(some 119), none, (.mv (.t 11))⟩, 
  ⟨(some 120), none, (.app 4 32 (.t 118) (.t 119))⟩, ⟨(some 15), none, (.mv (.t 120))⟩]) (.seq (.seq (.reg [⟨(some 16), none, (.mv (.k (.int .i64 0)))⟩]) (.block 0 (.loop (.seq 
  (.seq (.reg [⟨(some 121), none, (.mv (.t 16))⟩, ⟨(some 122), none, (.mv (.t 13))⟩, ⟨(some 123), none, (.lenl (.t 122))⟩, ⟨(some 124), none, (.bin .lss (.t 121) (.t 123))⟩]) 
  (.cond (.t 124) .skip (.exit 0))) (.seq (.block 1 (.reg [⟨(some 127), none, (.mv (.t 13))⟩, ⟨(some 128), none, (.mv (.t 16))⟩, 
  ⟨(some 129), none, (.call f_w12_small [(.k (.int .u64 9)), (.k (.int .u64 9))])⟩, ⟨(some 130), none, (.ixa 4 (.t 127) (.t 128))⟩, ⟨none, none, (.st (some 4) (.t 130) (.t 129))⟩])) 
  (.reg [⟨(some 125), none, (.mv (.t 16))⟩, ⟨(some 126), none, (.bin .add (.t 125) (.k (.int .i64 1)))⟩, ⟨(some 16), none, (.mv (.t 126))⟩])))))) (.seq (.seq 
  (.reg [⟨(some 131), none, (.mv (.t 9))⟩, ⟨(some 132), none, (.mv (.t 15))⟩, ⟨(some 133), none, (.call f_w12_same [(.t 131), (.t 132)])⟩, ⟨(some 134), none, (.un .not (.t 133))⟩]) 
  (.cond (.t 134) (.seq (.reg [⟨(some 4), none, (.mv (.k (.bool false)))⟩]) .ret) .skip)) (.seq (.seq (.reg [⟨(some 17), none, (.mv (.k (.int .i64 0)))⟩]) (.block 2 (.loop (.seq 
  (.seq (.reg [⟨(some 135), none, (.mv (.t 17))⟩, ⟨(some 136), none, (.mv (.t 9))⟩, ⟨(some 137), none, (.lenl (.t 136))⟩, ⟨(some 138), none, (.bin .lss (.t 135) (.t 137))⟩]) 
  (.cond (.t 138) .skip (.exit 2))) (.seq (.block 3 (.reg [⟨(some 141), none, (.mv (.t 9))⟩, ⟨(some 142), none, (.mv (.t 17))⟩, 
  ⟨(some 143), none, (.call f_w12_small [(.k (.int .u64 8)), (.k (.int .u64 8))])⟩, ⟨(some 144), none, (.ixa 4 (.t 141) (.t 142))⟩, ⟨none, none, (.st (some 4) (.t 144) (.t 143))⟩])) 
  (.reg [⟨(some 139), none, (.mv (.t 17))⟩, ⟨(some 140), none, (.bin .add (.t 139) (.k (.int .i64 1)))⟩, ⟨(some 17), none, (.mv (.t 140))⟩])))))) (.seq 
  (.reg [⟨(some 145), none, (.mv (.t 11))⟩, ⟨(some 146), none, (.mv (.t 15))⟩, ⟨(some 147), none, (.call f_w12_same [(.t 145), (.t 146)])⟩, 
  ⟨(some 4), none, (.mv (.t 147))⟩]) .ret))))))))))))))))))))⟩
theorem c_w12_PoolMemory : compF Try.prog ⟨some 71, some 43⟩ Try.f5 = some r_w12_PoolMemory := by kernel_rfl
/-- tenancy/tenancylaw12.PoolAll -/
def r_w12_PoolAll : RF :=
  ⟨177, [(.tmp 6)], (.seq (.reg [⟨(some 6), none, (.mv (.k (.bool false)))⟩]) (.seq (.seq (.reg [⟨(some 25), none, (.call f_w12_awake [])⟩, ⟨(some 26), none, (.un .not (.t 25))⟩]) 
  (.cond (.t 26) (.seq (.reg [⟨(some 6), none, (.mv (.k (.bool false)))⟩]) .ret) .skip)) (.seq (.seq (.reg [⟨(some 27), none, (.mv (.t 0))⟩, ⟨(some 28), none, (.lenl (.t 27))⟩, 
  ⟨(some 29), none, (.bin .gtr (.t 28) (.k (.int .i64 100)))⟩, ⟨(some 30), none, (.mv (.t 29))⟩, ⟨(some 31), (some (30, false)), (.mv (.t 1))⟩, 
  ⟨(some 32), (some (30, false)), (.lenl (.t 31))⟩, ⟨(some 33), (some (30, false)), (.bin .gtr (.t 32) (.k (.int .i64 100)))⟩, 
  ⟨(some 34), none, (.pick (.t 30) (.k (.bool true)) (.t 33))⟩]) (.cond (.t 34) (.seq (.reg [⟨(some 6), none, (.mv (.k (.bool true)))⟩]) .ret) .skip)) (.seq 
  (.reg [⟨(some 36), none, (.mv (.t 0))⟩, ⟨(some 37), none, (.mv (.t 1))⟩, ⟨(some 38), none, (.call f_pool_Build [(.t 36), (.t 37)])⟩, ⟨(some 35), none, (.mv (.t 38))⟩, 
  ⟨(some 39), none, (.ext 0 (.t 35))⟩, ⟨(some 40), none, (.ext 1 (.t 35))⟩, ⟨(some 7), none, (.mv (.t 39))⟩, ⟨(some 8), none, (.mv (.t 40))⟩]) (.seq (.seq 
  (.reg [⟨(some 41), none, (.mv (.t 8))⟩, ⟨(some 42), none, (.eq true .i (.t 41) (.k (.int .i64 0)))⟩]) (.cond (.t 42) (.seq (.reg [⟨(some 43), none, (.mv (.t 8))⟩, 
  ⟨(some 44), none, (.eq false .i (.t 43) (.k (.int .i64 1)))⟩, ⟨(some 6), none, (.mv (.t 44))⟩]) .ret) .skip)) (.seq (.reg [⟨(some 46), none, (.mv (.t 7))⟩, 
  ⟨(some 47), none, (.call f_span_Count [(.t 46)])⟩, ⟨(some 45), none, (.mv (.t 47))⟩, ⟨(some 48), none, (.ext 0 (.t 45))⟩, ⟨(some 49), none, (.ext 1 (.t 45))⟩, 
  ⟨(some 9), none, (.new [(.int .u64 0), (.int .u64 0)])⟩, ⟨none, none, (.st (some 2) (.t 9) (.t 48))⟩, ⟨(some 10), none, (.mv (.t 49))⟩]) (.seq (.seq 
  (.reg [⟨(some 11), none, (.mv (.k (.int .u64 0)))⟩]) (.block 0 (.loop (.seq (.seq (.reg [⟨(some 50), none, (.mv (.t 11))⟩, 
  ⟨(some 51), none, (.bin .lss (.t 50) (.k (.int .u64 200)))⟩, ⟨(some 52), none, (.mv (.t 51))⟩, ⟨(some 53), (some (52, true)), (.mv (.t 10))⟩, 
  ⟨(some 54), (some (52, true)), (.un .not (.t 53))⟩, ⟨(some 55), none, (.pick (.t 52) (.t 54) (.k (.bool false)))⟩, ⟨(some 56), none, (.mv (.t 55))⟩, 
  ⟨(some 57), (some (56, true)), (.off 0 (.t 9))⟩, ⟨(some 58), (some (56, true)), (.ld none (.t 57))⟩, ⟨(some 59), (some (56, true)), (.eq false .i (.t 58) (.k (.int .u64 0)))⟩, 
  ⟨(some 60), none, (.pick (.t 56) (.t 59) (.k (.bool false)))⟩, ⟨(some 61), none, (.mv (.t 60))⟩, ⟨(some 62), (some (61, true)), (.mv (.t 11))⟩, 
  ⟨(some 63), (some (61, true)), (.off 1 (.t 9))⟩, ⟨(some 64), (some (61, true)), (.ld none (.t 63))⟩, ⟨(some 65), (some (61, true)), (.bin .lss (.t 62) (.t 64))⟩, 
  ⟨(some 66), none, (.pick (.t 61) (.t 65) (.k (.bool false)))⟩]) (.cond (.t 66) .skip (.exit 0))) (.seq (.block 1 (.seq (.reg [⟨(some 70), none, (.mv (.t 7))⟩, 
  ⟨(some 71), none, (.mv (.t 11))⟩, ⟨(some 72), none, (.call f_pool_Pick [(.t 70), (.t 71)])⟩, ⟨(some 69), none, (.mv (.t 72))⟩, ⟨(some 73), none, (.ext 0 (.t 69))⟩, 
  ⟨(some 74), none, (.ext 1 (.t 69))⟩, ⟨(some 12), none, (.new [(.int .u64 0), (.int .u64 0)])⟩, ⟨none, none, (.st (some 2) (.t 12) (.t 73))⟩, ⟨(some 13), none, (.mv (.t 74))⟩]) 
  (.seq (.reg [⟨(some 76), none, (.mv (.t 7))⟩, ⟨(some 77), none, (.mv (.t 11))⟩, ⟨(some 78), none, (.off 1 (.t 9))⟩, ⟨(some 79), none, (.ld none (.t 78))⟩, 
  ⟨(some 80), none, (.bin .add (.t 77) (.t 79))⟩, ⟨(some 81), none, (.call f_pool_Pick [(.t 76), (.t 80)])⟩, ⟨(some 75), none, (.mv (.t 81))⟩, ⟨(some 82), none, (.ext 0 (.t 75))⟩, 
  ⟨(some 83), none, (.ext 1 (.t 75))⟩, ⟨(some 14), none, (.new [(.int .u64 0), (.int .u64 0)])⟩, ⟨none, none, (.st (some 2) (.t 14) (.t 82))⟩, ⟨(some 15), none, (.mv (.t 83))⟩]) 
  (.seq (.reg [⟨(some 84), none, (.mv (.t 13))⟩, ⟨(some 85), none, (.un .not (.t 84))⟩, ⟨(some 86), none, (.mv (.t 85))⟩, ⟨(some 87), (some (86, false)), (.mv (.t 7))⟩, 
  ⟨(some 88), (some (86, false)), (.ld (some 2) (.t 12))⟩, ⟨(some 89), (some (86, false)), (.call f_span_Rank [(.t 87), (.t 88)])⟩, ⟨(some 90), (some (86, false)), (.mv (.t 11))⟩, 
  ⟨(some 91), (some (86, false)), (.bld [(.int .u64 0), (.int .u64 0)] [(1, (1, (.t 90)))])⟩, 
  ⟨(some 92), (some (86, false)), (.eq true (.st (.one 0 .i (.one 1 .i .nil))) (.t 89) (.t 91))⟩, ⟨(some 93), none, (.pick (.t 86) (.k (.bool true)) (.t 92))⟩, 
  ⟨(some 94), none, (.mv (.t 93))⟩, ⟨(some 95), (some (94, false)), (.mv (.t 11))⟩, ⟨(some 96), (some (94, false)), (.off 1 (.t 9))⟩, 
  ⟨(some 97), (some (94, false)), (.ld none (.t 96))⟩, ⟨(some 98), (some (94, false)), (.bin .add (.t 95) (.t 97))⟩, ⟨(some 99), (some (94, false)), (.off 1 (.t 9))⟩, 
  ⟨(some 100), (some (94, false)), (.ld none (.t 99))⟩, ⟨(some 101), (some (94, false)), (.bin .geq (.t 98) (.t 100))⟩, ⟨(some 102), (some (94, false)), (.mv (.t 101))⟩, 
  ⟨(some 103), (some (102, true)), (.mv (.t 15))⟩, ⟨(some 104), (some (102, true)), (.un .not (.t 103))⟩, ⟨(some 105), (some (102, true)), (.mv (.t 104))⟩, 
  ⟨(some 106), (some (105, false)), (.ld (some 2) (.t 14))⟩, ⟨(some 107), (some (105, false)), (.ld (some 2) (.t 12))⟩, 
  ⟨(some 108), (some (105, false)), (.eq true (.st (.one 0 .i (.one 1 .i .nil))) (.t 106) (.t 107))⟩, ⟨(some 109), (some (102, true)), (.pick (.t 105) (.k (.bool true)) (.t 108))⟩, 
  ⟨(some 110), (some (94, false)), (.pick (.t 102) (.t 109) (.k (.bool false)))⟩, ⟨(some 111), none, (.pick (.t 94) (.k (.bool true)) (.t 110))⟩]) (.cond (.t 111) (.seq 
  (.reg [⟨(some 6), none, (.mv (.k (.bool false)))⟩]) .ret) .skip))))) (.reg [⟨(some 67), none, (.mv (.t 11))⟩, ⟨(some 68), none, (.bin .add (.t 67) (.k (.int .u64 1)))⟩, 
  ⟨(some 11), none, (.mv (.t 68))⟩])))))) (.seq (.reg [⟨(some 112), none, (.ld (some 2) (.t 9))⟩, ⟨(some 16), none, (.new [(.int .u64 0), (.int .u64 0)])⟩, 
  ⟨none, none, (.st (some 2) (.t 16) (.t 112))⟩]) (.seq (.reg [⟨(some 17), none, (.mv (.k .nils))⟩]) (.seq (.seq (.reg [⟨(some 18), none, (.mv (.k (.int .i64 0)))⟩]) (.block 2 
  (.loop (.seq (.seq (.reg [⟨(some 113), none, (.mv (.t 18))⟩, ⟨(some 114), none, (.mv (.t 2))⟩, ⟨(some 115), none, (.lenl (.t 114))⟩, 
  ⟨(some 116), none, (.bin .lss (.t 113) (.t 115))⟩, ⟨(some 117), none, (.mv (.t 116))⟩, ⟨(some 118), (some (117, true)), (.mv (.t 18))⟩, 
  ⟨(some 119), (some (117, true)), (.bin .lss (.t 118) (.k (.int .i64 200)))⟩, ⟨(some 120), none, (.pick (.t 117) (.t 119) (.k (.bool false)))⟩]) (.cond (.t 120) .skip (.exit 2))) 
  (.seq (.block 3 (.seq (.reg [⟨(some 124), none, (.mv (.t 7))⟩, ⟨(some 125), none, (.mv (.t 17))⟩, ⟨(some 126), none, (.call f_pool_Free [(.t 124), (.t 125)])⟩, 
  ⟨(some 123), none, (.mv (.t 126))⟩, ⟨(some 127), none, (.ext 0 (.t 123))⟩, ⟨(some 128), none, (.ext 1 (.t 123))⟩, ⟨(some 19), none, (.mv (.t 127))⟩, 
  ⟨(some 20), none, (.mv (.t 128))⟩]) (.seq (.reg [⟨(some 130), none, (.mv (.t 19))⟩, ⟨(some 131), none, (.mv (.t 2))⟩, ⟨(some 132), none, (.mv (.t 18))⟩, 
  ⟨(some 133), none, (.ixa 1 (.t 131) (.t 132))⟩, ⟨(some 134), none, (.ld none (.t 133))⟩, ⟨(some 135), none, (.call f_pool_Pick [(.t 130), (.t 134)])⟩, 
  ⟨(some 129), none, (.mv (.t 135))⟩, ⟨(some 136), none, (.ext 0 (.t 129))⟩, ⟨(some 137), none, (.ext 1 (.t 129))⟩, ⟨(some 21), none, (.new [(.int .u64 0), (.int .u64 0)])⟩, 
  ⟨none, none, (.st (some 2) (.t 21) (.t 136))⟩, ⟨(some 22), none, (.mv (.t 137))⟩]) (.seq (.seq (.reg [⟨(some 138), none, (.mv (.t 20))⟩, 
  ⟨(some 139), none, (.eq true .i (.t 138) (.k (.int .i64 0)))⟩, ⟨(some 140), none, (.mv (.t 139))⟩, ⟨(some 141), (some (140, false)), (.mv (.t 22))⟩, 
  ⟨(some 142), (some (140, false)), (.mv (.t 10))⟩, ⟨(some 143), (some (140, false)), (.mv (.t 142))⟩, ⟨(some 144), (some (143, false)), (.ld (some 2) (.t 16))⟩, 
  ⟨(some 145), (some (143, false)), (.bld [(.int .u64 0), (.int .u64 0)] [])⟩, ⟨(some 146), (some (143, false)), (.eq true (.st (.one 0 .i (.one 1 .i .nil))) (.t 144) (.t 145))⟩, 
  ⟨(some 147), (some (140, false)), (.pick (.t 143) (.k (.bool true)) (.t 146))⟩, ⟨(some 148), (some (140, false)), (.eq true .b (.t 141) (.t 147))⟩, 
  ⟨(some 149), none, (.pick (.t 140) (.k (.bool true)) (.t 148))⟩]) (.cond (.t 149) (.seq (.reg [⟨(some 6), none, (.mv (.k (.bool false)))⟩]) .ret) .skip)) (.seq (.seq 
  (.reg [⟨(some 150), none, (.mv (.t 22))⟩, ⟨(some 151), none, (.un .not (.t 150))⟩]) (.cond (.t 151) (.seq (.reg [⟨(some 6), none, (.mv (.k (.bool true)))⟩]) .ret) .skip)) (.seq 
  (.reg [⟨(some 152), none, (.mv (.t 17))⟩, ⟨(some 153), none, (.ld (some 2) (.t 21))⟩, ⟨(some 154), none, (.bsl 2 1 [(.int .u64 0), (.int .u64 0)] [(0, (2, (.t 153)))])⟩, 
  ⟨(some 155), none, (.app 2 16 (.t 152) (.t 154))⟩, ⟨(some 17), none, (.mv (.t 155))⟩]) (.seq (.reg [⟨(some 157), none, (.ld (some 2) (.t 16))⟩, 
  ⟨(some 158), none, (.bld [(.int .u64 0), (.int .u64 0)] [(1, (1, (.k (.int .u64 1))))])⟩, ⟨(some 159), none, (.call f_addr_Sub [(.t 157), (.t 158)])⟩, 
  ⟨(some 156), none, (.mv (.t 159))⟩, ⟨(some 160), none, (.ext 0 (.t 156))⟩, ⟨(some 161), none, (.ext 1 (.t 156))⟩, ⟨none, none, (.st (some 2) (.t 16) (.t 160))⟩]) (.seq (.seq 
  (.reg [⟨(some 162), none, (.mv (.t 10))⟩]) (.cond (.t 162) (.reg [⟨(some 10), none, (.mv (.k (.bool false)))⟩]) .skip)) (.seq (.reg [⟨(some 164), none, (.mv (.t 7))⟩, 
  ⟨(some 165), none, (.mv (.t 17))⟩, ⟨(some 166), none, (.call f_pool_Free [(.t 164), (.t 165)])⟩, ⟨(some 163), none, (.mv (.t 166))⟩, ⟨(some 167), none, (.ext 0 (.t 163))⟩, 
  ⟨(some 168), none, (.ext 1 (.t 163))⟩, ⟨(some 19), none, (.mv (.t 167))⟩]) (.seq (.reg [⟨(some 170), none, (.mv (.t 19))⟩, ⟨(some 171), none, (.call f_span_Count [(.t 170)])⟩, 
  ⟨(some 169), none, (.mv (.t 171))⟩, ⟨(some 172), none, (.ext 0 (.t 169))⟩, ⟨(some 173), none, (.ext 1 (.t 169))⟩, ⟨(some 23), none, (.new [(.int .u64 0), (.int .u64 0)])⟩, 
  ⟨none, none, (.st (some 2) (.t 23) (.t 172))⟩, ⟨(some 24), none, (.mv (.t 173))⟩]) (.seq (.reg [⟨(some 174), none, (.ld (some 2) (.t 23))⟩, 
  ⟨(some 175), none, (.ld (some 2) (.t 16))⟩, ⟨(some 176), none, (.eq true (.st (.one 0 .i (.one 1 .i .nil))) (.t 174) (.t 175))⟩]) (.cond (.t 176) (.seq 
  (.reg [⟨(some 6), none, (.mv (.k (.bool false)))⟩]) .ret) .skip)))))))))))) (.reg [⟨(some 121), none, (.mv (.t 18))⟩, ⟨(some 122), none, (.bin .add (.t 121) (.k (.int .i64 1)))⟩, 
  ⟨(some 18), none, (.mv (.t 122))⟩])))))) (.seq (.reg [⟨(some 6), none, (.mv (.k (.bool true)))⟩]) .ret)))))))))))⟩
theorem c_w12_PoolAll : compF Try.prog ⟨some 71, some 43⟩ Try.f6 = some r_w12_PoolAll := by kernel_rfl
/-- tenancy/tenancylaw12.PoolPicks -/
def r_w12_PoolPicks : RF :=
  ⟨122, [(.tmp 6)], (.seq (.reg [⟨(some 6), none, (.mv (.k (.bool false)))⟩]) (.seq (.seq (.reg [⟨(some 16), none, (.call f_w12_awake [])⟩, ⟨(some 17), none, (.un .not (.t 16))⟩]) 
  (.cond (.t 17) (.seq (.reg [⟨(some 6), none, (.mv (.k (.bool false)))⟩]) .ret) .skip)) (.seq (.seq (.reg [⟨(some 18), none, (.mv (.t 0))⟩, ⟨(some 19), none, (.lenl (.t 18))⟩, 
  ⟨(some 20), none, (.bin .gtr (.t 19) (.k (.int .i64 100)))⟩, ⟨(some 21), none, (.mv (.t 20))⟩, ⟨(some 22), (some (21, false)), (.mv (.t 1))⟩, 
  ⟨(some 23), (some (21, false)), (.lenl (.t 22))⟩, ⟨(some 24), (some (21, false)), (.bin .gtr (.t 23) (.k (.int .i64 100)))⟩, 
  ⟨(some 25), none, (.pick (.t 21) (.k (.bool true)) (.t 24))⟩]) (.cond (.t 25) (.seq (.reg [⟨(some 6), none, (.mv (.k (.bool true)))⟩]) .ret) .skip)) (.seq 
  (.reg [⟨(some 26), none, (.mv (.t 1))⟩, ⟨(some 27), none, (.lenl (.t 26))⟩, ⟨(some 28), none, (.bin .quo (.t 27) (.k (.int .i64 2)))⟩, ⟨(some 7), none, (.mv (.t 28))⟩]) (.seq 
  (.reg [⟨(some 30), none, (.mv (.t 0))⟩, ⟨(some 31), none, (.mv (.t 1))⟩, ⟨(some 32), none, (.mv (.t 7))⟩, ⟨(some 33), none, (.slc 2 (.t 31) none (some (.t 32)) none)⟩, 
  ⟨(some 34), none, (.call f_pool_Build [(.t 30), (.t 33)])⟩, ⟨(some 29), none, (.mv (.t 34))⟩, ⟨(some 35), none, (.ext 0 (.t 29))⟩, ⟨(some 36), none, (.ext 1 (.t 29))⟩, 
  ⟨(some 8), none, (.mv (.t 35))⟩, ⟨(some 9), none, (.mv (.t 36))⟩]) (.seq (.seq (.reg [⟨(some 37), none, (.mv (.t 9))⟩, 
  ⟨(some 38), none, (.eq true .i (.t 37) (.k (.int .i64 0)))⟩]) (.cond (.t 38) (.seq (.reg [⟨(some 39), none, (.mv (.t 9))⟩, 
  ⟨(some 40), none, (.eq false .i (.t 39) (.k (.int .i64 1)))⟩, ⟨(some 41), none, (.mv (.t 40))⟩, ⟨(some 42), (some (41, true)), (.mv (.t 8))⟩, 
  ⟨(some 43), (some (41, true)), (.lenl (.t 42))⟩, ⟨(some 44), (some (41, true)), (.eq false .i (.t 43) (.k (.int .i64 0)))⟩, 
  ⟨(some 45), none, (.pick (.t 41) (.t 44) (.k (.bool false)))⟩, ⟨(some 6), none, (.mv (.t 45))⟩]) .ret) .skip)) (.seq (.reg [⟨(some 47), none, (.mv (.t 8))⟩, 
  ⟨(some 48), none, (.mv (.t 1))⟩, ⟨(some 49), none, (.mv (.t 7))⟩, ⟨(some 50), none, (.slc 2 (.t 48) (some (.t 49)) none none)⟩, 
  ⟨(some 51), none, (.call f_pool_Free [(.t 47), (.t 50)])⟩, ⟨(some 46), none, (.mv (.t 51))⟩, ⟨(some 52), none, (.ext 0 (.t 46))⟩, ⟨(some 53), none, (.ext 1 (.t 46))⟩, 
  ⟨(some 10), none, (.mv (.t 52))⟩, ⟨(some 9), none, (.mv (.t 53))⟩]) (.seq (.seq (.reg [⟨(some 54), none, (.mv (.t 9))⟩, 
  ⟨(some 55), none, (.eq true .i (.t 54) (.k (.int .i64 0)))⟩, ⟨(some 56), none, (.mv (.t 55))⟩, ⟨(some 57), (some (56, false)), (.mv (.t 10))⟩, 
  ⟨(some 58), (some (56, false)), (.call f_span_Sound [(.t 57)])⟩, ⟨(some 59), (some (56, false)), (.un .not (.t 58))⟩, 
  ⟨(some 60), none, (.pick (.t 56) (.k (.bool true)) (.t 59))⟩]) (.cond (.t 60) (.seq (.reg [⟨(some 6), none, (.mv (.k (.bool false)))⟩]) .ret) .skip)) (.seq 
  (.reg [⟨(some 62), none, (.mv (.t 10))⟩, ⟨(some 63), none, (.mv (.t 2))⟩, ⟨(some 64), none, (.call f_pool_Pick [(.t 62), (.t 63)])⟩, ⟨(some 61), none, (.mv (.t 64))⟩, 
  ⟨(some 65), none, (.ext 0 (.t 61))⟩, ⟨(some 66), none, (.ext 1 (.t 61))⟩, ⟨(some 11), none, (.new [(.int .u64 0), (.int .u64 0)])⟩, ⟨none, none, (.st (some 2) (.t 11) (.t 65))⟩, 
  ⟨(some 12), none, (.mv (.t 66))⟩]) (.seq (.seq (.reg [⟨(some 67), none, (.mv (.t 12))⟩, ⟨(some 68), none, (.mv (.t 10))⟩, ⟨(some 69), none, (.lenl (.t 68))⟩, 
  ⟨(some 70), none, (.bin .gtr (.t 69) (.k (.int .i64 0)))⟩, ⟨(some 71), none, (.eq true .b (.t 67) (.t 70))⟩]) (.cond (.t 71) (.seq 
  (.reg [⟨(some 6), none, (.mv (.k (.bool false)))⟩]) .ret) .skip)) (.seq (.seq (.reg [⟨(some 72), none, (.mv (.t 12))⟩, ⟨(some 73), none, (.un .not (.t 72))⟩]) (.cond (.t 73) (.seq 
  (.reg [⟨(some 74), none, (.ld (some 2) (.t 11))⟩, ⟨(some 75), none, (.bld [(.int .u64 0), (.int .u64 0)] [])⟩, 
  ⟨(some 76), none, (.eq false (.st (.one 0 .i (.one 1 .i .nil))) (.t 74) (.t 75))⟩, ⟨(some 6), none, (.mv (.t 76))⟩]) .ret) .skip)) (.seq 
  (.reg [⟨(some 13), none, (.mv (.k (.bool false)))⟩]) (.seq (.seq (.reg [⟨(some 14), none, (.mv (.k (.int .i64 0)))⟩]) (.block 0 (.loop (.seq (.seq 
  (.reg [⟨(some 77), none, (.mv (.t 14))⟩, ⟨(some 78), none, (.mv (.t 0))⟩, ⟨(some 79), none, (.lenl (.t 78))⟩, ⟨(some 80), none, (.bin .lss (.t 77) (.t 79))⟩]) 
  (.cond (.t 80) .skip (.exit 0))) (.seq (.block 1 (.drw 0 [⟨⟨(some 83), none, (.mv (.t 13))⟩, .pure, [], []⟩, ⟨⟨(some 84), none, (.mv (.t 83))⟩, .pure, [], []⟩, 
  ⟨⟨(some 85), (some (84, false)), (.mv (.t 0))⟩, .pure, [], []⟩, ⟨⟨(some 86), (some (84, false)), (.mv (.t 14))⟩, .pure, [], []⟩, 
  ⟨⟨(some 87), (some (84, false)), (.ixa 4 (.t 85) (.t 86))⟩, .pure, [], []⟩, ⟨⟨(some 88), (some (84, false)), (.off 0 (.t 87))⟩, .pure, [], []⟩, 
  ⟨⟨(some 89), (some (84, false)), (.ld (some 2) (.t 88))⟩, .ld, [], []⟩, ⟨⟨(some 90), (some (84, false)), (.ld (some 2) (.t 11))⟩, .ld, [], []⟩, 
  ⟨⟨(some 91), (some (84, false)), (.call f_addr_Cmp [(.t 89), (.t 90)])⟩, .eff, [], []⟩, ⟨⟨(some 92), (some (84, false)), (.bin .leq (.t 91) (.k (.int .i64 0)))⟩, .pure, [], []⟩, 
  ⟨⟨(some 93), (some (84, false)), (.mv (.t 92))⟩, .pure, [], []⟩, ⟨⟨(some 94), (some (93, true)), (.ld (some 2) (.t 11))⟩, .ld, [], []⟩, 
  ⟨⟨(some 95), (some (93, true)), (.mv (.t 0))⟩, .pure, [11], []⟩, ⟨⟨(some 96), (some (93, true)), (.mv (.t 14))⟩, .pure, [11], []⟩, 
  ⟨⟨(some 97), (some (93, true)), (.ixa 4 (.t 95) (.t 96))⟩, .pure, [11], []⟩, ⟨⟨(some 98), (some (93, true)), (.off 2 (.t 97))⟩, .pure, [11], []⟩, 
  ⟨⟨(some 99), (some (93, true)), (.ld (some 2) (.t 98))⟩, .ld, [], []⟩, ⟨⟨(some 100), (some (93, true)), (.call f_addr_Cmp [(.t 94), (.t 99)])⟩, .eff, [], []⟩, 
  ⟨⟨(some 101), (some (93, true)), (.bin .leq (.t 100) (.k (.int .i64 0)))⟩, .pure, [], []⟩, 
  ⟨⟨(some 102), (some (84, false)), (.pick (.t 93) (.t 101) (.k (.bool false)))⟩, .pure, [], []⟩, ⟨⟨(some 103), none, (.pick (.t 84) (.k (.bool true)) (.t 102))⟩, .pure, [], []⟩, 
  ⟨⟨(some 13), none, (.mv (.t 103))⟩, .pure, [], []⟩])) (.reg [⟨(some 81), none, (.mv (.t 14))⟩, ⟨(some 82), none, (.bin .add (.t 81) (.k (.int .i64 1)))⟩, 
  ⟨(some 14), none, (.mv (.t 82))⟩])))))) (.seq (.seq (.reg [⟨(some 15), none, (.mv (.k (.int .i64 0)))⟩]) (.block 2 (.loop (.seq (.seq (.reg [⟨(some 104), none, (.mv (.t 15))⟩, 
  ⟨(some 105), none, (.mv (.t 1))⟩, ⟨(some 106), none, (.lenl (.t 105))⟩, ⟨(some 107), none, (.bin .lss (.t 104) (.t 106))⟩]) (.cond (.t 107) .skip (.exit 2))) (.seq (.block 3 (.seq 
  (.drw 0 [⟨⟨(some 110), none, (.mv (.t 1))⟩, .pure, [], []⟩, ⟨⟨(some 111), none, (.mv (.t 15))⟩, .pure, [], []⟩, ⟨⟨(some 112), none, (.ixa 2 (.t 110) (.t 111))⟩, .pure, [], []⟩, 
  ⟨⟨(some 113), none, (.ld (some 2) (.t 112))⟩, .ld, [], []⟩, ⟨⟨(some 114), none, (.ld (some 2) (.t 11))⟩, .ld, [], []⟩, 
  ⟨⟨(some 115), none, (.eq false (.st (.one 0 .i (.one 1 .i .nil))) (.t 113) (.t 114))⟩, .pure, [], []⟩]) (.cond (.t 115) (.seq 
  (.reg [⟨(some 6), none, (.mv (.k (.bool false)))⟩]) .ret) .skip))) (.reg [⟨(some 108), none, (.mv (.t 15))⟩, ⟨(some 109), none, (.bin .add (.t 108) (.k (.int .i64 1)))⟩, 
  ⟨(some 15), none, (.mv (.t 109))⟩])))))) (.seq (.reg [⟨(some 116), none, (.mv (.t 13))⟩, ⟨(some 117), none, (.mv (.t 116))⟩, ⟨(some 118), (some (117, true)), (.mv (.t 10))⟩, 
  ⟨(some 119), (some (117, true)), (.ld (some 2) (.t 11))⟩, ⟨(some 120), (some (117, true)), (.call f_span_Has [(.t 118), (.t 119)])⟩, 
  ⟨(some 121), none, (.pick (.t 117) (.t 120) (.k (.bool false)))⟩, ⟨(some 6), none, (.mv (.t 121))⟩]) .ret)))))))))))))))⟩
theorem c_w12_PoolPicks : compF Try.prog ⟨some 71, some 43⟩ Try.f7 = some r_w12_PoolPicks := by kernel_rfl
/-- tenancy/tenancylaw12.awake -/
def r_w12_awake : RF :=
  ⟨73, [(.tmp 0)], (.seq (.reg [⟨(some 0), none, (.mv (.k (.bool false)))⟩]) (.seq (.reg [⟨(some 9), none, (.call f_w12_small [(.k (.int .u64 1)), (.k (.int .u64 9))])⟩, 
  ⟨(some 10), none, (.call f_w12_small [(.k (.int .u64 5)), (.k (.int .u64 12))])⟩, 
  ⟨(some 11), none, (.bsl 4 2 [(.int .u64 0), (.int .u64 0), (.int .u64 0), (.int .u64 0)] [(0, (4, (.t 9))), (4, (4, (.t 10)))])⟩, 
  ⟨(some 12), none, (.bsl 1 3 [(.int .u64 0)] [(0, (1, (.k (.int .u64 3)))), (1, (1, (.k (.int .u64 12)))), (2, (1, (.k (.int .u64 40))))])⟩, 
  ⟨(some 13), none, (.call f_w12_few [(.t 12)])⟩, ⟨(some 14), none, (.call f_pool_Build [(.t 11), (.t 13)])⟩, ⟨(some 8), none, (.mv (.t 14))⟩, ⟨(some 15), none, (.ext 0 (.t 8))⟩, 
  ⟨(some 16), none, (.ext 1 (.t 8))⟩, ⟨(some 1), none, (.mv (.t 15))⟩, ⟨(some 2), none, (.mv (.t 16))⟩]) (.seq (.reg [⟨(some 18), none, (.mv (.t 1))⟩, 
  ⟨(some 19), none, (.bsl 1 3 [(.int .u64 0)] [(0, (1, (.k (.int .u64 5)))), (1, (1, (.k (.int .u64 5)))), (2, (1, (.k (.int .u64 99))))])⟩, 
  ⟨(some 20), none, (.call f_w12_few [(.t 19)])⟩, ⟨(some 21), none, (.call f_pool_Free [(.t 18), (.t 20)])⟩, ⟨(some 17), none, (.mv (.t 21))⟩, ⟨(some 22), none, (.ext 0 (.t 17))⟩, 
  ⟨(some 23), none, (.ext 1 (.t 17))⟩, ⟨(some 3), none, (.mv (.t 22))⟩, ⟨(some 4), none, (.mv (.t 23))⟩]) (.seq (.reg [⟨(some 25), none, (.mv (.t 3))⟩, 
  ⟨(some 26), none, (.call f_pool_Pick [(.t 25), (.k (.int .u64 3))])⟩, ⟨(some 24), none, (.mv (.t 26))⟩, ⟨(some 27), none, (.ext 0 (.t 24))⟩, ⟨(some 28), none, (.ext 1 (.t 24))⟩, 
  ⟨(some 5), none, (.new [(.int .u64 0), (.int .u64 0)])⟩, ⟨none, none, (.st (some 2) (.t 5) (.t 27))⟩, ⟨(some 6), none, (.mv (.t 28))⟩]) (.seq 
  (.reg [⟨(some 29), none, (.bld [(.int .u64 0), (.int .u64 0)] [(1, (1, (.k (.int .u64 7))))])⟩, 
  ⟨(some 30), none, (.bld [(.int .u64 0), (.int .u64 0), (.int .i64 0)] [(0, (2, (.t 29)))])⟩, 
  ⟨(some 31), none, (.bld [(.int .i64 0), (.int .u64 0), (.int .u64 0), (.int .i64 0), (.int .i64 0), (.str (bts [])), (.int .u32 0), (.int .i64 0)] [(0, (1, (.k (.int .i64 2)))), (1, (3, (.t 30)))])⟩, 
  ⟨(some 32), none, (.bld [(.int .u64 0), (.int .u64 0)] [(1, (1, (.k (.int .u64 5))))])⟩, 
  ⟨(some 33), none, (.bld [(.int .u64 0), (.int .u64 0), (.int .i64 0)] [(0, (2, (.t 32)))])⟩, 
  ⟨(some 34), none, (.bld [(.int .i64 0), (.int .u64 0), (.int .u64 0), (.int .i64 0), (.int .i64 0), (.str (bts [])), (.int .u32 0), (.int .i64 0)] [(0, (1, (.k (.int .i64 2)))), (1, (3, (.t 33)))])⟩, 
  ⟨(some 35), none, (.bld [(.int .i64 0), (.int .u64 0), (.int .u64 0), (.int .i64 0), (.int .i64 0), (.str (bts [])), (.int .u32 0), (.int .i64 0)] [(0, (1, (.k (.int .i64 3))))])⟩, 
  ⟨(some 36), none, (.bsl 8 3 [(.int .i64 0), (.int .u64 0), (.int .u64 0), (.int .i64 0), (.int .i64 0), (.str (bts [])), (.int .u32 0), (.int .i64 0)] [(0, (8, (.t 31))), (8, (8, (.t 34))), (16, (8, (.t 35)))])⟩, 
  ⟨(some 37), none, (.call f_pool_Own [(.t 36), (.k (.int .i64 2))])⟩, ⟨(some 7), none, (.mv (.t 37))⟩]) (.seq (.reg [⟨(some 38), none, (.mv (.t 2))⟩, 
  ⟨(some 39), none, (.eq false .i (.t 38) (.k (.int .i64 0)))⟩, ⟨(some 40), none, (.mv (.t 39))⟩, ⟨(some 41), (some (40, true)), (.mv (.t 4))⟩, 
  ⟨(some 42), (some (40, true)), (.eq false .i (.t 41) (.k (.int .i64 0)))⟩, ⟨(some 43), none, (.pick (.t 40) (.t 42) (.k (.bool false)))⟩, ⟨(some 44), none, (.mv (.t 43))⟩, 
  ⟨(some 45), (some (44, true)), (.mv (.t 1))⟩, ⟨(some 46), (some (44, true)), (.call f_w12_small [(.k (.int .u64 1)), (.k (.int .u64 2))])⟩, 
  ⟨(some 47), (some (44, true)), (.call f_w12_small [(.k (.int .u64 4)), (.k (.int .u64 11))])⟩, 
  ⟨(some 48), (some (44, true)), (.bsl 4 2 [(.int .u64 0), (.int .u64 0), (.int .u64 0), (.int .u64 0)] [(0, (4, (.t 46))), (4, (4, (.t 47)))])⟩, 
  ⟨(some 49), (some (44, true)), (.call f_w12_same [(.t 45), (.t 48)])⟩, ⟨(some 50), none, (.pick (.t 44) (.t 49) (.k (.bool false)))⟩, ⟨(some 51), none, (.mv (.t 50))⟩, 
  ⟨(some 52), (some (51, true)), (.mv (.t 3))⟩, ⟨(some 53), (some (51, true)), (.call f_w12_small [(.k (.int .u64 1)), (.k (.int .u64 2))])⟩, 
  ⟨(some 54), (some (51, true)), (.call f_w12_small [(.k (.int .u64 4)), (.k (.int .u64 4))])⟩, 
  ⟨(some 55), (some (51, true)), (.call f_w12_small [(.k (.int .u64 6)), (.k (.int .u64 11))])⟩, 
  ⟨(some 56), (some (51, true)), (.bsl 4 3 [(.int .u64 0), (.int .u64 0), (.int .u64 0), (.int .u64 0)] [(0, (4, (.t 53))), (4, (4, (.t 54))), (8, (4, (.t 55)))])⟩, 
  ⟨(some 57), (some (51, true)), (.call f_w12_same [(.t 52), (.t 56)])⟩, ⟨(some 58), none, (.pick (.t 51) (.t 57) (.k (.bool false)))⟩, ⟨(some 59), none, (.mv (.t 58))⟩, 
  ⟨(some 60), (some (59, true)), (.mv (.t 6))⟩, ⟨(some 61), none, (.pick (.t 59) (.t 60) (.k (.bool false)))⟩, ⟨(some 62), none, (.mv (.t 61))⟩, 
  ⟨(some 63), (some (62, true)), (.ld (some 2) (.t 5))⟩, ⟨(some 64), (some (62, true)), (.bld [(.int .u64 0), (.int .u64 0)] [(1, (1, (.k (.int .u64 6))))])⟩, 
  ⟨(some 65), (some (62, true)), (.eq false (.st (.one 0 .i (.one 1 .i .nil))) (.t 63) (.t 64))⟩, ⟨(some 66), none, (.pick (.t 62) (.t 65) (.k (.bool false)))⟩, 
  ⟨(some 67), none, (.mv (.t 66))⟩, ⟨(some 68), (some (67, true)), (.mv (.t 7))⟩, 
  ⟨(some 69), (some (67, true)), (.bsl 1 2 [(.int .u64 0)] [(0, (1, (.k (.int .u64 5)))), (1, (1, (.k (.int .u64 7))))])⟩, 
  ⟨(some 70), (some (67, true)), (.call f_w12_few [(.t 69)])⟩, ⟨(some 71), (some (67, true)), (.call f_w12_list [(.t 68), (.t 70)])⟩, 
  ⟨(some 72), none, (.pick (.t 67) (.t 71) (.k (.bool false)))⟩, ⟨(some 0), none, (.mv (.t 72))⟩]) .ret))))))⟩
theorem c_w12_awake : compF Try.prog ⟨some 71, some 43⟩ Try.f8 = some r_w12_awake := by kernel_rfl
/-- tenancy/pool.Build -/
def r_pool_Build : RF :=
  ⟨33, [(.tmp 4), (.tmp 5)], (.seq (.reg [⟨(some 4), none, (.mv (.k .nils))⟩, ⟨(some 5), none, (.mv (.k (.int .i64 0)))⟩]) (.seq (.reg [⟨(some 6), none, (.mv (.k .nils))⟩]) (.seq 
  (.seq (.reg [⟨(some 11), none, (.mv (.t 0))⟩, ⟨(some 12), none, (.lenl (.t 11))⟩, ⟨(some 13), none, (.mv (.k (.int .i64 0)))⟩]) (.block 0 (.loop (.seq 
  (.reg [⟨(some 14), none, (.bin .lss (.t 13) (.t 12))⟩]) (.seq (.cond (.t 14) .skip (.exit 0)) (.seq (.block 1 (.seq (.reg [⟨(some 15), none, (.ixa 4 (.t 11) (.t 13))⟩, 
  ⟨(some 16), none, (.ld (some 4) (.t 15))⟩, ⟨(some 8), none, (.new [(.int .u64 0), (.int .u64 0), (.int .u64 0), (.int .u64 0)])⟩, ⟨none, none, (.st (some 4) (.t 8) (.t 16))⟩]) 
  (.seq (.reg [⟨(some 18), none, (.mv (.t 6))⟩, ⟨(some 19), none, (.ld (some 4) (.t 8))⟩, ⟨(some 20), none, (.call f_span_Put [(.t 18), (.t 19)])⟩, ⟨(some 17), none, (.mv (.t 20))⟩, 
  ⟨(some 21), none, (.ext 0 (.t 17))⟩, ⟨(some 22), none, (.ext 1 (.t 17))⟩, ⟨(some 9), none, (.mv (.t 21))⟩, ⟨(some 10), none, (.mv (.t 22))⟩]) (.seq (.seq 
  (.reg [⟨(some 23), none, (.mv (.t 10))⟩, ⟨(some 24), none, (.eq true .i (.t 23) (.k (.int .i64 0)))⟩]) (.cond (.t 24) (.seq (.reg [⟨(some 25), none, (.mv (.t 10))⟩, 
  ⟨(some 4), none, (.mv (.k .nils))⟩, ⟨(some 5), none, (.mv (.t 25))⟩]) .ret) .skip)) (.reg [⟨(some 26), none, (.mv (.t 9))⟩, ⟨(some 6), none, (.mv (.t 26))⟩]))))) 
  (.reg [⟨(some 27), none, (.bin .add (.t 13) (.k (.int .i64 1)))⟩, ⟨(some 13), none, (.mv (.t 27))⟩]))))))) (.seq (.reg [⟨(some 28), none, (.mv (.t 6))⟩, 
  ⟨(some 29), none, (.mv (.t 1))⟩, ⟨(some 30), none, (.call f_pool_Free [(.t 28), (.t 29)])⟩, ⟨(some 31), none, (.ext 0 (.t 30))⟩, ⟨(some 32), none, (.ext 1 (.t 30))⟩, 
  ⟨(some 4), none, (.mv (.t 31))⟩, ⟨(some 5), none, (.mv (.t 32))⟩]) .ret))))⟩
theorem c_pool_Build : compF Try.prog ⟨some 71, some 43⟩ Try.f9 = some r_pool_Build := by kernel_rfl
/-- tenancy/tenancyref12.Build -/
def r_r12_Build : RF :=
  ⟨32, [(.tmp 4), (.tmp 5)], (.seq (.reg [⟨(some 4), none, (.mv (.k .nils))⟩, ⟨(some 5), none, (.mv (.k (.int .i64 0)))⟩]) (.seq 
  (.reg [⟨(some 10), none, (.bsl 4 0 [(.int .u64 0), (.int .u64 0), (.int .u64 0), (.int .u64 0)] [])⟩, ⟨(some 6), none, (.mv (.t 10))⟩]) (.seq (.seq 
  (.reg [⟨(some 7), none, (.mv (.k (.int .i64 0)))⟩]) (.block 0 (.loop (.seq (.seq (.reg [⟨(some 11), none, (.mv (.t 7))⟩, ⟨(some 12), none, (.mv (.t 0))⟩, 
  ⟨(some 13), none, (.lenl (.t 12))⟩, ⟨(some 14), none, (.bin .lss (.t 11) (.t 13))⟩]) (.cond (.t 14) .skip (.exit 0))) (.seq (.block 1 (.seq (.reg [⟨(some 18), none, (.mv (.t 6))⟩, 
  ⟨(some 19), none, (.mv (.t 0))⟩, ⟨(some 20), none, (.mv (.t 7))⟩, ⟨(some 21), none, (.ixa 4 (.t 19) (.t 20))⟩, ⟨(some 22), none, (.ld (some 4) (.t 21))⟩, 
  ⟨(some 23), none, (.call f_r03_Put [(.t 18), (.t 22)])⟩, ⟨(some 17), none, (.mv (.t 23))⟩, ⟨(some 24), none, (.ext 0 (.t 17))⟩, ⟨(some 25), none, (.ext 1 (.t 17))⟩, 
  ⟨(some 8), none, (.mv (.t 24))⟩, ⟨(some 9), none, (.mv (.t 25))⟩]) (.seq (.seq (.reg [⟨(some 26), none, (.mv (.t 9))⟩, 
  ⟨(some 27), none, (.eq true .i (.t 26) (.k (.int .i64 0)))⟩]) (.cond (.t 27) (.seq (.reg [⟨(some 4), none, (.mv (.k .nils))⟩, 
  ⟨(some 5), none, (.mv (.k (.int .i64 1)))⟩]) .ret) .skip)) (.reg [⟨(some 28), none, (.mv (.t 8))⟩, ⟨(some 6), none, (.mv (.t 28))⟩])))) (.reg [⟨(some 15), none, (.mv (.t 7))⟩, 
  ⟨(some 16), none, (.bin .add (.t 15) (.k (.int .i64 1)))⟩, ⟨(some 7), none, (.mv (.t 16))⟩])))))) (.seq (.reg [⟨(some 29), none, (.mv (.t 6))⟩, ⟨(some 30), none, (.mv (.t 1))⟩, 
  ⟨(some 31), none, (.call f_r12_less [(.t 29), (.t 30)])⟩, ⟨(some 4), none, (.mv (.t 31))⟩, ⟨(some 5), none, (.mv (.k (.int .i64 0)))⟩]) .ret))))⟩
theorem c_r12_Build : compF Try.prog ⟨some 71, some 43⟩ Try.f10 = some r_r12_Build := by kernel_rfl
/-- tenancy/tenancylaw12.same -/
def r_w12_same : RF :=
  ⟨26, [(.tmp 4)], (.seq (.reg [⟨(some 4), none, (.mv (.k (.bool false)))⟩]) (.seq (.seq (.reg [⟨(some 6), none, (.mv (.t 0))⟩, ⟨(some 7), none, (.lenl (.t 6))⟩, 
  ⟨(some 8), none, (.mv (.t 1))⟩, ⟨(some 9), none, (.lenl (.t 8))⟩, ⟨(some 10), none, (.eq true .i (.t 7) (.t 9))⟩]) (.cond (.t 10) (.seq 
  (.reg [⟨(some 4), none, (.mv (.k (.bool false)))⟩]) .ret) .skip)) (.seq (.seq (.reg [⟨(some 5), none, (.mv (.k (.int .i64 0)))⟩]) (.block 0 (.loop (.seq (.seq 
  (.reg [⟨(some 11), none, (.mv (.t 5))⟩, ⟨(some 12), none, (.mv (.t 0))⟩, ⟨(some 13), none, (.lenl (.t 12))⟩, ⟨(some 14), none, (.bin .lss (.t 11) (.t 13))⟩]) 
  (.cond (.t 14) .skip (.exit 0))) (.seq (.block 1 (.seq (.drw 0 [⟨⟨(some 17), none, (.mv (.t 0))⟩, .pure, [], []⟩, ⟨⟨(some 18), none, (.mv (.t 5))⟩, .pure, [], []⟩, 
  ⟨⟨(some 19), none, (.ixa 4 (.t 17) (.t 18))⟩, .pure, [], []⟩, ⟨⟨(some 20), none, (.ld (some 4) (.t 19))⟩, .ld, [], []⟩, ⟨⟨(some 21), none, (.mv (.t 1))⟩, .pure, [3], []⟩, 
  ⟨⟨(some 22), none, (.mv (.t 5))⟩, .pure, [3], []⟩, ⟨⟨(some 23), none, (.ixa 4 (.t 21) (.t 22))⟩, .pure, [3], []⟩, ⟨⟨(some 24), none, (.ld (some 4) (.t 23))⟩, .ld, [], []⟩, 
  ⟨⟨(some 25), none, (.eq true (.st (.sub 0 2 (.st (.one 0 .i (.one 1 .i .nil))) (.sub 2 2 (.st (.one 0 .i (.one 1 .i .nil))) .nil))) (.t 20) (.t 24))⟩, .pure, [], []⟩]) 
  (.cond (.t 25) (.seq (.reg [⟨(some 4), none, (.mv (.k (.bool false)))⟩]) .ret) .skip))) (.reg [⟨(some 15), none, (.mv (.t 5))⟩, 
  ⟨(some 16), none, (.bin .add (.t 15) (.k (.int .i64 1)))⟩, ⟨(some 5), none, (.mv (.t 16))⟩])))))) (.seq (.reg [⟨(some 4), none, (.mv (.k (.bool true)))⟩]) .ret))))⟩
theorem c_w12_same : compF Try.prog ⟨some 71, some 43⟩ Try.f11 = some r_w12_same := by kernel_rfl
/-- tenancy/pool.Free -/
def r_pool_Free : RF :=
  ⟨29, [(.tmp 4), (.tmp 5)], (.seq (.reg [⟨(some 4), none, (.mv (.k .nils))⟩, ⟨(some 5), none, (.mv (.k (.int .i64 0)))⟩]) (.seq (.reg [⟨(some 6), none, (.mv (.k .nils))⟩]) (.seq 
  (.seq (.reg [⟨(some 9), none, (.mv (.t 1))⟩, ⟨(some 10), none, (.lenl (.t 9))⟩, ⟨(some 11), none, (.mv (.k (.int .i64 0)))⟩]) (.block 0 (.loop (.seq 
  (.reg [⟨(some 12), none, (.bin .lss (.t 11) (.t 10))⟩]) (.seq (.cond (.t 12) .skip (.exit 0)) (.seq (.block 1 (.seq (.reg [⟨(some 13), none, (.ixa 2 (.t 9) (.t 11))⟩, 
  ⟨(some 14), none, (.ld (some 2) (.t 13))⟩, ⟨(some 8), none, (.new [(.int .u64 0), (.int .u64 0)])⟩, ⟨none, none, (.st (some 2) (.t 8) (.t 14))⟩]) 
  (.reg [⟨(some 16), none, (.mv (.t 6))⟩, ⟨(some 17), none, (.ld (some 2) (.t 8))⟩, ⟨(some 18), none, (.ld (some 2) (.t 8))⟩, 
  ⟨(some 19), none, (.bld [(.int .u64 0), (.int .u64 0), (.int .u64 0), (.int .u64 0)] [(0, (2, (.t 17))), (2, (2, (.t 18)))])⟩, 
  ⟨(some 20), none, (.call f_span_Put [(.t 16), (.t 19)])⟩, ⟨(some 15), none, (.mv (.t 20))⟩, ⟨(some 21), none, (.ext 0 (.t 15))⟩, ⟨(some 22), none, (.ext 1 (.t 15))⟩, 
  ⟨(some 6), none, (.mv (.t 21))⟩]))) (.reg [⟨(some 23), none, (.bin .add (.t 11) (.k (.int .i64 1)))⟩, ⟨(some 11), none, (.mv (.t 23))⟩]))))))) (.seq 
  (.reg [⟨(some 24), none, (.mv (.t 0))⟩, ⟨(some 25), none, (.mv (.t 6))⟩, ⟨(some 26), none, (.call f_span_Less [(.t 24), (.t 25)])⟩, ⟨(some 27), none, (.ext 0 (.t 26))⟩, 
  ⟨(some 28), none, (.ext 1 (.t 26))⟩, ⟨(some 4), none, (.mv (.t 27))⟩, ⟨(some 5), none, (.mv (.t 28))⟩]) .ret))))⟩
theorem c_pool_Free : compF Try.prog ⟨some 71, some 43⟩ Try.f12 = some r_pool_Free := by kernel_rfl
/-- tenancy/tenancyref12.Free -/
def r_r12_Free : RF :=
  ⟨12, [(.tmp 4), (.tmp 5)], (.seq (.reg [⟨(some 4), none, (.mv (.k .nils))⟩, ⟨(some 5), none, (.mv (.k (.int .i64 0)))⟩]) (.seq (.seq (.reg [⟨(some 6), none, (.mv (.t 0))⟩, 
  ⟨(some 7), none, (.call f_r03_Sound [(.t 6)])⟩, ⟨(some 8), none, (.un .not (.t 7))⟩]) (.cond (.t 8) (.seq (.reg [⟨(some 4), none, (.mv (.k .nils))⟩, 
  ⟨(some 5), none, (.mv (.k (.int .i64 1)))⟩]) .ret) .skip)) (.seq (.reg [⟨(some 9), none, (.mv (.t 0))⟩, ⟨(some 10), none, (.mv (.t 1))⟩, 
  ⟨(some 11), none, (.call f_r12_less [(.t 9), (.t 10)])⟩, ⟨(some 4), none, (.mv (.t 11))⟩, ⟨(some 5), none, (.mv (.k (.int .i64 0)))⟩]) .ret)))⟩
theorem c_r12_Free : compF Try.prog ⟨some 71, some 43⟩ Try.f13 = some r_r12_Free := by kernel_rfl
/-- tenancy/pool.Pick -/
def r_pool_Pick : RF :=
  ⟨29, [(.cell (some 2) 4), (.tmp 5)], (.seq (.reg [⟨(some 4), none, (.new [(.int .u64 0), (.int .u64 0)])⟩, ⟨(some 5), none, (.mv (.k (.bool false)))⟩]) (.seq 
  (.reg [⟨(some 9), none, (.mv (.t 1))⟩, ⟨(some 10), none, (.bld [(.int .u64 0), (.int .u64 0)] [(1, (1, (.t 9)))])⟩, ⟨(some 6), none, (.new [(.int .u64 0), (.int .u64 0)])⟩, 
  ⟨none, none, (.st (some 2) (.t 6) (.t 10))⟩]) (.seq (.seq (.reg [⟨(some 12), none, (.mv (.t 0))⟩, ⟨(some 13), none, (.call f_span_Count [(.t 12)])⟩, 
  ⟨(some 11), none, (.mv (.t 13))⟩, ⟨(some 14), none, (.ext 0 (.t 11))⟩, ⟨(some 15), none, (.ext 1 (.t 11))⟩, ⟨(some 7), none, (.new [(.int .u64 0), (.int .u64 0)])⟩, 
  ⟨none, none, (.st (some 2) (.t 7) (.t 14))⟩, ⟨(some 8), none, (.mv (.t 15))⟩]) (.seq (.reg [⟨(some 16), none, (.mv (.t 8))⟩, ⟨(some 17), none, (.un .not (.t 16))⟩]) (.cond (.t 17) 
  (.reg [⟨(some 19), none, (.ld (some 2) (.t 6))⟩, ⟨(some 20), none, (.ld (some 2) (.t 7))⟩, ⟨(some 21), none, (.call f_addr_Mod [(.t 19), (.t 20)])⟩, 
  ⟨(some 18), none, (.mv (.t 21))⟩, ⟨(some 22), none, (.ext 0 (.t 18))⟩, ⟨(some 23), none, (.ext 1 (.t 18))⟩, ⟨none, none, (.st (some 2) (.t 6) (.t 22))⟩]) .skip))) (.seq 
  (.reg [⟨(some 24), none, (.mv (.t 0))⟩, ⟨(some 25), none, (.ld (some 2) (.t 6))⟩, ⟨(some 26), none, (.call f_span_Nth [(.t 24), (.t 25)])⟩, ⟨(some 27), none, (.ext 0 (.t 26))⟩, 
  ⟨(some 28), none, (.ext 1 (.t 26))⟩, ⟨none, none, (.st (some 2) (.t 4) (.t 27))⟩, ⟨(some 5), none, (.mv (.t 28))⟩]) .ret))))⟩
theorem c_pool_Pick : compF Try.prog ⟨some 71, some 43⟩ Try.f14 = some r_pool_Pick := by kernel_rfl
/-- tenancy/tenancyref12.Pick -/
def r_r12_Pick : RF :=
  ⟨35, [(.cell (some 2) 4), (.tmp 5)], (.seq (.reg [⟨(some 4), none, (.new [(.int .u64 0), (.int .u64 0)])⟩, ⟨(some 5), none, (.mv (.k (.bool false)))⟩]) (.seq 
  (.reg [⟨(some 12), none, (.mv (.t 0))⟩, ⟨(some 13), none, (.call f_r03_Count [(.t 12)])⟩, ⟨(some 11), none, (.mv (.t 13))⟩, ⟨(some 14), none, (.ext 0 (.t 11))⟩, 
  ⟨(some 15), none, (.ext 1 (.t 11))⟩, ⟨(some 6), none, (.new [(.int .u64 0), (.int .u64 0)])⟩, ⟨none, none, (.st (some 2) (.t 6) (.t 14))⟩, ⟨(some 7), none, (.mv (.t 15))⟩]) (.seq 
  (.reg [⟨(some 16), none, (.mv (.t 1))⟩, ⟨(some 17), none, (.bld [(.int .u64 0), (.int .u64 0)] [(1, (1, (.t 16)))])⟩, ⟨(some 8), none, (.new [(.int .u64 0), (.int .u64 0)])⟩, 
  ⟨none, none, (.st (some 2) (.t 8) (.t 17))⟩]) (.seq (.seq (.reg [⟨(some 18), none, (.mv (.t 7))⟩, ⟨(some 19), none, (.un .not (.t 18))⟩]) (.cond (.t 19) (.seq 
  (.reg [⟨(some 21), none, (.ld (some 2) (.t 8))⟩, ⟨(some 22), none, (.ld (some 2) (.t 6))⟩, ⟨(some 23), none, (.call f_r01_Mod [(.t 21), (.t 22)])⟩, 
  ⟨(some 20), none, (.mv (.t 23))⟩, ⟨(some 24), none, (.ext 0 (.t 20))⟩, ⟨(some 25), none, (.ext 1 (.t 20))⟩, ⟨(some 9), none, (.new [(.int .u64 0), (.int .u64 0)])⟩, 
  ⟨none, none, (.st (some 2) (.t 9) (.t 24))⟩, ⟨(some 10), none, (.mv (.t 25))⟩]) (.seq (.seq (.reg [⟨(some 26), none, (.mv (.t 10))⟩, ⟨(some 27), none, (.un .not (.t 26))⟩]) 
  (.cond (.t 27) (.seq (.reg [⟨(some 28), none, (.bld [(.int .u64 0), (.int .u64 0)] [])⟩, ⟨none, none, (.st (some 2) (.t 4) (.t 28))⟩, 
  ⟨(some 5), none, (.mv (.k (.bool false)))⟩]) .ret) .skip)) (.reg [⟨(some 29), none, (.ld (some 2) (.t 9))⟩, ⟨none, none, (.st (some 2) (.t 8) (.t 29))⟩]))) .skip)) (.seq 
  (.reg [⟨(some 30), none, (.mv (.t 0))⟩, ⟨(some 31), none, (.ld (some 2) (.t 8))⟩, ⟨(some 32), none, (.call f_r03_Nth [(.t 30), (.t 31)])⟩, ⟨(some 33), none, (.ext 0 (.t 32))⟩, 
  ⟨(some 34), none, (.ext 1 (.t 32))⟩, ⟨none, none, (.st (some 2) (.t 4) (.t 33))⟩, ⟨(some 5), none, (.mv (.t 34))⟩]) .ret)))))⟩
theorem c_r12_Pick : compF Try.prog ⟨some 71, some 43⟩ Try.f15 = some r_r12_Pick := by kernel_rfl
/-- tenancy/tenancylaw12.list -/
def r_w12_list : RF :=
  ⟨26, [(.tmp 4)], (.seq (.reg [⟨(some 4), none, (.mv (.k (.bool false)))⟩]) (.seq (.seq (.reg [⟨(some 6), none, (.mv (.t 0))⟩, ⟨(some 7), none, (.lenl (.t 6))⟩, 
  ⟨(some 8), none, (.mv (.t 1))⟩, ⟨(some 9), none, (.lenl (.t 8))⟩, ⟨(some 10), none, (.eq true .i (.t 7) (.t 9))⟩]) (.cond (.t 10) (.seq 
  (.reg [⟨(some 4), none, (.mv (.k (.bool false)))⟩]) .ret) .skip)) (.seq (.seq (.reg [⟨(some 5), none, (.mv (.k (.int .i64 0)))⟩]) (.block 0 (.loop (.seq (.seq 
  (.reg [⟨(some 11), none, (.mv (.t 5))⟩, ⟨(some 12), none, (.mv (.t 0))⟩, ⟨(some 13), none, (.lenl (.t 12))⟩, ⟨(some 14), none, (.bin .lss (.t 11) (.t 13))⟩]) 
  (.cond (.t 14) .skip (.exit 0))) (.seq (.block 1 (.seq (.drw 0 [⟨⟨(some 17), none, (.mv (.t 0))⟩, .pure, [], []⟩, ⟨⟨(some 18), none, (.mv (.t 5))⟩, .pure, [], []⟩, 
  ⟨⟨(some 19), none, (.ixa 2 (.t 17) (.t 18))⟩, .pure, [], []⟩, ⟨⟨(some 20), none, (.ld (some 2) (.t 19))⟩, .ld, [], []⟩, ⟨⟨(some 21), none, (.mv (.t 1))⟩, .pure, [3], []⟩, 
  ⟨⟨(some 22), none, (.mv (.t 5))⟩, .pure, [3], []⟩, ⟨⟨(some 23), none, (.ixa 2 (.t 21) (.t 22))⟩, .pure, [3], []⟩, ⟨⟨(some 24), none, (.ld (some 2) (.t 23))⟩, .ld, [], []⟩, 
  ⟨⟨(some 25), none, (.eq true (.st (.one 0 .i (.one 1 .i .nil))) (.t 20) (.t 24))⟩, .pure, [], []⟩]) (.cond (.t 25) (.seq 
  (.reg [⟨(some 4), none, (.mv (.k (.bool false)))⟩]) .ret) .skip))) (.reg [⟨(some 15), none, (.mv (.t 5))⟩, ⟨(some 16), none, (.bin .add (.t 15) (.k (.int .i64 1)))⟩, 
  ⟨(some 5), none, (.mv (.t 16))⟩])))))) (.seq (.reg [⟨(some 4), none, (.mv (.k (.bool true)))⟩]) .ret))))⟩
theorem c_w12_list : compF Try.prog ⟨some 71, some 43⟩ Try.f16 = some r_w12_list := by kernel_rfl
/-- tenancy/pool.Own -/
def r_pool_Own : RF :=
  ⟨29, [(.tmp 4)], (.seq (.reg [⟨(some 4), none, (.mv (.k .nils))⟩]) (.seq (.reg [⟨(some 5), none, (.mv (.k .nils))⟩]) (.seq (.seq (.reg [⟨(some 8), none, (.mv (.t 0))⟩, 
  ⟨(some 9), none, (.lenl (.t 8))⟩, ⟨(some 10), none, (.mv (.k (.int .i64 0)))⟩]) (.block 0 (.loop (.seq (.reg [⟨(some 11), none, (.bin .lss (.t 10) (.t 9))⟩]) (.seq 
  (.cond (.t 11) .skip (.exit 0)) (.seq (.block 1 (.seq (.reg [⟨(some 12), none, (.ixa 8 (.t 8) (.t 10))⟩, ⟨(some 13), none, (.ld (some 8) (.t 12))⟩, 
  ⟨(some 7), none, (.new [(.int .i64 0), (.int .u64 0), (.int .u64 0), (.int .i64 0), (.int .i64 0), (.str (bts [])), (.int .u32 0), (.int .i64 0)])⟩, 
  ⟨none, none, (.st (some 8) (.t 7) (.t 13))⟩]) (.seq (.reg [⟨(some 14), none, (.off 0 (.t 7))⟩, ⟨(some 15), none, (.ld none (.t 14))⟩, ⟨(some 16), none, (.mv (.t 1))⟩, 
  ⟨(some 17), none, (.eq false .i (.t 15) (.t 16))⟩]) (.cond (.t 17) (.reg [⟨(some 18), none, (.mv (.t 5))⟩, ⟨(some 19), none, (.off 1 (.t 7))⟩, ⟨(some 20), none, (.off 0 (.t 19))⟩, 
  ⟨(some 21), none, (.ld (some 2) (.t 20))⟩, ⟨(some 22), none, (.bsl 2 1 [(.int .u64 0), (.int .u64 0)] [(0, (2, (.t 21)))])⟩, ⟨(some 23), none, (.app 2 16 (.t 18) (.t 22))⟩, 
  ⟨(some 5), none, (.mv (.t 23))⟩]) .skip)))) (.reg [⟨(some 24), none, (.bin .add (.t 10) (.k (.int .i64 1)))⟩, ⟨(some 10), none, (.mv (.t 24))⟩]))))))) (.seq 
  (.reg [⟨(some 25), none, (.mv (.t 5))⟩, ⟨(some 26), none, (.call f_slices_SortFunc_Addr [(.t 25), (.k (.fn f_addr_Cmp []))])⟩]) (.seq (.reg [⟨(some 27), none, (.mv (.t 5))⟩, 
  ⟨(some 28), none, (.call f_slices_Compact_Addr [(.t 27)])⟩, ⟨(some 4), none, (.mv (.t 28))⟩]) .ret)))))⟩
theorem c_pool_Own : compF Try.prog ⟨some 71, some 43⟩ Try.f17 = some r_pool_Own := by kernel_rfl
/-- tenancy/tenancyref12.Own -/
def r_r12_Own : RF :=
  ⟨30, [(.tmp 4)], (.seq (.reg [⟨(some 4), none, (.mv (.k .nils))⟩]) (.seq (.reg [⟨(some 7), none, (.bsl 2 0 [(.int .u64 0), (.int .u64 0)] [])⟩, ⟨(some 5), none, (.mv (.t 7))⟩]) 
  (.seq (.seq (.reg [⟨(some 6), none, (.mv (.k (.int .i64 0)))⟩]) (.block 0 (.loop (.seq (.seq (.reg [⟨(some 8), none, (.mv (.t 6))⟩, ⟨(some 9), none, (.mv (.t 0))⟩, 
  ⟨(some 10), none, (.lenl (.t 9))⟩, ⟨(some 11), none, (.bin .lss (.t 8) (.t 10))⟩]) (.cond (.t 11) .skip (.exit 0))) (.seq (.block 1 (.seq (.reg [⟨(some 14), none, (.mv (.t 0))⟩, 
  ⟨(some 15), none, (.mv (.t 6))⟩, ⟨(some 16), none, (.ixa 8 (.t 14) (.t 15))⟩, ⟨(some 17), none, (.off 0 (.t 16))⟩, ⟨(some 18), none, (.ld none (.t 17))⟩, 
  ⟨(some 19), none, (.mv (.t 1))⟩, ⟨(some 20), none, (.eq false .i (.t 18) (.t 19))⟩]) (.cond (.t 20) (.reg [⟨(some 21), none, (.mv (.t 5))⟩, ⟨(some 22), none, (.mv (.t 0))⟩, 
  ⟨(some 23), none, (.mv (.t 6))⟩, ⟨(some 24), none, (.ixa 8 (.t 22) (.t 23))⟩, ⟨(some 25), none, (.off 1 (.t 24))⟩, ⟨(some 26), none, (.off 0 (.t 25))⟩, 
  ⟨(some 27), none, (.ld (some 2) (.t 26))⟩, ⟨(some 28), none, (.call f_r12_with [(.t 21), (.t 27)])⟩, ⟨(some 5), none, (.mv (.t 28))⟩]) .skip))) 
  (.reg [⟨(some 12), none, (.mv (.t 6))⟩, ⟨(some 13), none, (.bin .add (.t 12) (.k (.int .i64 1)))⟩, ⟨(some 6), none, (.mv (.t 13))⟩])))))) (.seq 
  (.reg [⟨(some 29), none, (.mv (.t 5))⟩, ⟨(some 4), none, (.mv (.t 29))⟩]) .ret))))⟩
theorem c_r12_Own : compF Try.prog ⟨some 71, some 43⟩ Try.f18 = some r_r12_Own := by kernel_rfl
/-- tenancy/tenancylaw12.small -/
def r_w12_small : RF :=
  ⟨10, [(.cell (some 4) 4)], (.seq (.reg [⟨(some 4), none, (.new [(.int .u64 0), (.int .u64 0), (.int .u64 0), (.int .u64 0)])⟩]) (.seq (.reg [⟨(some 5), none, (.mv (.t 0))⟩, 
  ⟨(some 6), none, (.bld [(.int .u64 0), (.int .u64 0)] [(1, (1, (.t 5)))])⟩, ⟨(some 7), none, (.mv (.t 1))⟩, 
  ⟨(some 8), none, (.bld [(.int .u64 0), (.int .u64 0)] [(1, (1, (.t 7)))])⟩, 
  ⟨(some 9), none, (.bld [(.int .u64 0), (.int .u64 0), (.int .u64 0), (.int .u64 0)] [(0, (2, (.t 6))), (2, (2, (.t 8)))])⟩, ⟨none, none, (.st (some 4) (.t 4) (.t 9))⟩]) .ret))⟩
theorem c_w12_small : compF Try.prog ⟨some 71, some 43⟩ Try.f19 = some r_w12_small := by kernel_rfl
/-- tenancy/span.Count -/
def r_span_Count : RF :=
  ⟨49, [(.cell (some 2) 2), (.tmp 3)], (.seq (.reg [⟨(some 2), none, (.new [(.int .u64 0), (.int .u64 0)])⟩, ⟨(some 3), none, (.mv (.k (.bool false)))⟩]) (.seq 
  (.reg [⟨(some 4), none, (.new [(.int .u64 0), (.int .u64 0)])⟩]) (.seq (.seq (.reg [⟨(some 9), none, (.mv (.t 0))⟩, ⟨(some 10), none, (.call f_span_Sound [(.t 9)])⟩, 
  ⟨(some 11), none, (.un .not (.t 10))⟩]) (.cond (.t 11) (.seq (.reg [⟨(some 12), none, (.ld (some 2) (.t 4))⟩, ⟨none, none, (.st (some 2) (.t 2) (.t 12))⟩, 
  ⟨(some 3), none, (.mv (.k (.bool false)))⟩]) .ret) .skip)) (.seq (.seq (.reg [⟨(some 13), none, (.mv (.t 0))⟩, ⟨(some 14), none, (.lenl (.t 13))⟩, 
  ⟨(some 15), none, (.mv (.k (.int .i64 0)))⟩]) (.block 0 (.loop (.seq (.reg [⟨(some 16), none, (.bin .lss (.t 15) (.t 14))⟩]) (.seq (.cond (.t 16) .skip (.exit 0)) (.seq (.block 1 
  (.seq (.reg [⟨(some 17), none, (.ixa 4 (.t 13) (.t 15))⟩, ⟨(some 18), none, (.ld (some 4) (.t 17))⟩, 
  ⟨(some 6), none, (.new [(.int .u64 0), (.int .u64 0), (.int .u64 0), (.int .u64 0)])⟩, ⟨none, none, (.st (some 4) (.t 6) (.t 18))⟩]) (.seq 
  (.reg [⟨(some 20), none, (.off 2 (.t 6))⟩, ⟨(some 21), none, (.ld (some 2) (.t 20))⟩, ⟨(some 22), none, (.off 0 (.t 6))⟩, ⟨(some 23), none, (.ld (some 2) (.t 22))⟩, 
  ⟨(some 24), none, (.call f_addr_Sub [(.t 21), (.t 23)])⟩, ⟨(some 19), none, (.mv (.t 24))⟩, ⟨(some 25), none, (.ext 0 (.t 19))⟩, ⟨(some 26), none, (.ext 1 (.t 19))⟩, 
  ⟨(some 7), none, (.new [(.int .u64 0), (.int .u64 0)])⟩, ⟨none, none, (.st (some 2) (.t 7) (.t 25))⟩, ⟨(some 8), none, (.mv (.t 26))⟩]) (.seq 
  (.reg [⟨(some 28), none, (.ld (some 2) (.t 4))⟩, ⟨(some 29), none, (.ld (some 2) (.t 7))⟩, ⟨(some 30), none, (.call f_addr_Add [(.t 28), (.t 29)])⟩, 
  ⟨(some 27), none, (.mv (.t 30))⟩, ⟨(some 31), none, (.ext 0 (.t 27))⟩, ⟨(some 32), none, (.ext 1 (.t 27))⟩, ⟨none, none, (.st (some 2) (.t 4) (.t 31))⟩]) 
  (.drw 0 [⟨⟨(some 34), none, (.ld (some 2) (.t 4))⟩, .ld, [], []⟩, ⟨⟨(some 35), none, (.call f_span_one [])⟩, .eff, [0], []⟩, 
  ⟨⟨(some 36), none, (.call f_addr_Add [(.t 34), (.t 35)])⟩, .eff, [], []⟩, ⟨⟨(some 33), none, (.mv (.t 36))⟩, .pure, [], []⟩, ⟨⟨(some 37), none, (.ext 0 (.t 33))⟩, .pure, [], []⟩, 
  ⟨⟨(some 38), none, (.ext 1 (.t 33))⟩, .pure, [], []⟩, ⟨⟨none, none, (.st (some 2) (.t 4) (.t 37))⟩, .eff, [], []⟩]))))) 
  (.reg [⟨(some 39), none, (.bin .add (.t 15) (.k (.int .i64 1)))⟩, ⟨(some 15), none, (.mv (.t 39))⟩]))))))) (.seq (.drw 0 [⟨⟨(some 40), none, (.ld (some 2) (.t 4))⟩, .ld, [], []⟩, 
  ⟨⟨(some 41), none, (.mv (.t 0))⟩, .pure, [0], []⟩, ⟨⟨(some 42), none, (.lenl (.t 41))⟩, .pure, [0], []⟩, 
  ⟨⟨(some 43), none, (.bin .gtr (.t 42) (.k (.int .i64 0)))⟩, .pure, [0], []⟩, ⟨⟨(some 44), none, (.mv (.t 43))⟩, .pure, [0], []⟩, 
  ⟨⟨(some 45), (some (44, true)), (.ld (some 2) (.t 4))⟩, .ld, [], []⟩, ⟨⟨(some 46), (some (44, true)), (.bld [(.int .u64 0), (.int .u64 0)] [])⟩, .pure, [0, 5], []⟩, 
  ⟨⟨(some 47), (some (44, true)), (.eq false (.st (.one 0 .i (.one 1 .i .nil))) (.t 45) (.t 46))⟩, .pure, [0], []⟩, 
  ⟨⟨(some 48), none, (.pick (.t 44) (.t 47) (.k (.bool false)))⟩, .pure, [0], []⟩, ⟨⟨none, none, (.st (some 2) (.t 2) (.t 40))⟩, .eff, [5], []⟩, 
  ⟨⟨(some 3), none, (.mv (.t 48))⟩, .pure, [], []⟩]) .ret)))))⟩
theorem c_span_Count : compF Try.prog ⟨some 71, some 43⟩ Try.f20 = some r_span_Count := by kernel_rfl
/-- tenancy/span.Rank -/
def r_span_Rank : RF :=
  ⟨26, [(.cell (some 2) 4)], (.seq (.reg [⟨(some 3), none, (.box (some 2) (.t 1))⟩, ⟨(some 4), none, (.new [(.int .u64 0), (.int .u64 0)])⟩]) (.seq 
  (.reg [⟨(some 10), none, (.mv (.t 0))⟩, ⟨(some 11), none, (.ld (some 2) (.t 3))⟩, 
  ⟨(some 12), none, (.bld [(.int .u64 0), (.int .u64 0)] [(0, (1, (.k (.int .u64 18446744073709551615)))), (1, (1, (.k (.int .u64 18446744073709551615))))])⟩, 
  ⟨(some 13), none, (.bld [(.int .u64 0), (.int .u64 0), (.int .u64 0), (.int .u64 0)] [(0, (2, (.t 11))), (2, (2, (.t 12)))])⟩, 
  ⟨(some 14), none, (.call f_span_Drop [(.t 10), (.t 13)])⟩, ⟨(some 9), none, (.mv (.t 14))⟩, ⟨(some 15), none, (.ext 0 (.t 9))⟩, ⟨(some 16), none, (.ext 1 (.t 9))⟩, 
  ⟨(some 5), none, (.mv (.t 15))⟩, ⟨(some 6), none, (.mv (.t 16))⟩]) (.seq (.seq (.reg [⟨(some 17), none, (.mv (.t 6))⟩, 
  ⟨(some 18), none, (.eq true .i (.t 17) (.k (.int .i64 0)))⟩]) (.cond (.t 18) (.seq (.reg [⟨(some 19), none, (.bld [(.int .u64 0), (.int .u64 0)] [])⟩, 
  ⟨none, none, (.st (some 2) (.t 4) (.t 19))⟩]) .ret) .skip)) (.seq (.reg [⟨(some 21), none, (.mv (.t 5))⟩, ⟨(some 22), none, (.call f_span_Count [(.t 21)])⟩, 
  ⟨(some 20), none, (.mv (.t 22))⟩, ⟨(some 23), none, (.ext 0 (.t 20))⟩, ⟨(some 24), none, (.ext 1 (.t 20))⟩, ⟨(some 7), none, (.new [(.int .u64 0), (.int .u64 0)])⟩, 
  ⟨none, none, (.st (some 2) (.t 7) (.t 23))⟩, ⟨(some 8), none, (.mv (.t 24))⟩]) (.seq (.reg [⟨(some 25), none, (.ld (some 2) (.t 7))⟩, 
  ⟨none, none, (.st (some 2) (.t 4) (.t 25))⟩]) .ret)))))⟩
theorem c_span_Rank : compF Try.prog ⟨some 71, some 43⟩ Try.f21 = some r_span_Rank := by kernel_rfl
/-- tenancy/addr.Sub -/
def r_addr_Sub : RF :=
  ⟨31, [(.cell (some 2) 4), (.tmp 5)], (.seq (.reg [⟨(some 2), none, (.box (some 2) (.t 0))⟩, ⟨(some 3), none, (.box (some 2) (.t 1))⟩, 
  ⟨(some 4), none, (.new [(.int .u64 0), (.int .u64 0)])⟩, ⟨(some 5), none, (.mv (.k (.bool false)))⟩]) (.seq (.reg [⟨(some 10), none, (.off 1 (.t 2))⟩, 
  ⟨(some 11), none, (.ld none (.t 10))⟩, ⟨(some 12), none, (.off 1 (.t 3))⟩, ⟨(some 13), none, (.ld none (.t 12))⟩, ⟨(some 14), none, (.sub64 (.t 11) (.t 13) (.k (.int .u64 0)))⟩, 
  ⟨(some 9), none, (.mv (.t 14))⟩, ⟨(some 15), none, (.ext 0 (.t 9))⟩, ⟨(some 16), none, (.ext 1 (.t 9))⟩, ⟨(some 6), none, (.mv (.t 15))⟩, ⟨(some 7), none, (.mv (.t 16))⟩]) (.seq 
  (.reg [⟨(some 18), none, (.off 0 (.t 2))⟩, ⟨(some 19), none, (.ld none (.t 18))⟩, ⟨(some 20), none, (.off 0 (.t 3))⟩, ⟨(some 21), none, (.ld none (.t 20))⟩, 
  ⟨(some 22), none, (.mv (.t 7))⟩, ⟨(some 23), none, (.sub64 (.t 19) (.t 21) (.t 22))⟩, ⟨(some 17), none, (.mv (.t 23))⟩, ⟨(some 24), none, (.ext 0 (.t 17))⟩, 
  ⟨(some 25), none, (.ext 1 (.t 17))⟩, ⟨(some 8), none, (.mv (.t 24))⟩, ⟨(some 7), none, (.mv (.t 25))⟩]) (.seq (.reg [⟨(some 26), none, (.mv (.t 8))⟩, 
  ⟨(some 27), none, (.mv (.t 6))⟩, ⟨(some 28), none, (.bld [(.int .u64 0), (.int .u64 0)] [(0, (1, (.t 26))), (1, (1, (.t 27)))])⟩, ⟨(some 29), none, (.mv (.t 7))⟩, 
  ⟨(some 30), none, (.eq true .i (.t 29) (.k (.int .u64 0)))⟩, ⟨none, none, (.st (some 2) (.t 4) (.t 28))⟩, ⟨(some 5), none, (.mv (.t 30))⟩]) .ret))))⟩
theorem c_addr_Sub : compF Try.prog ⟨some 71, some 43⟩ Try.f22 = some r_addr_Sub := by kernel_rfl
/-- tenancy/span.Sound -/
def r_span_Sound : RF :=
  ⟨30, [(.tmp 2)], (.seq (.reg [⟨(some 2), none, (.mv (.k (.bool false)))⟩]) (.seq (.seq (.reg [⟨(some 5), none, (.mv (.t 0))⟩, ⟨(some 6), none, (.lenl (.t 5))⟩, 
  ⟨(some 7), none, (.mv (.k (.int .i64 0)))⟩]) (.block 0 (.loop (.seq (.reg [⟨(some 8), none, (.bin .lss (.t 7) (.t 6))⟩]) (.seq (.cond (.t 8) .skip (.exit 0)) (.seq (.block 1 (.seq 
  (.reg [⟨(some 9), none, (.mv (.t 7))⟩, ⟨(some 10), none, (.ixa 4 (.t 5) (.t 7))⟩, ⟨(some 11), none, (.ld (some 4) (.t 10))⟩, 
  ⟨(some 4), none, (.new [(.int .u64 0), (.int .u64 0), (.int .u64 0), (.int .u64 0)])⟩, ⟨(some 3), none, (.mv (.t 9))⟩, ⟨none, none, (.st (some 4) (.t 4) (.t 11))⟩]) (.seq 
  (.drw 0 [⟨⟨(some 12), none, (.ld (some 4) (.t 4))⟩, .ld, [], []⟩, ⟨⟨(some 13), none, (.call f_span_isRange [(.t 12)])⟩, .eff, [], []⟩, 
  ⟨⟨(some 14), none, (.un .not (.t 13))⟩, .pure, [], []⟩, ⟨⟨(some 15), none, (.mv (.t 14))⟩, .pure, [], []⟩, ⟨⟨(some 16), (some (15, false)), (.mv (.t 3))⟩, .pure, [], []⟩, 
  ⟨⟨(some 17), (some (15, false)), (.bin .gtr (.t 16) (.k (.int .i64 0)))⟩, .pure, [], []⟩, ⟨⟨(some 18), (some (15, false)), (.mv (.t 17))⟩, .pure, [], []⟩, 
  ⟨⟨(some 19), (some (18, true)), (.mv (.t 0))⟩, .pure, [], []⟩, ⟨⟨(some 20), (some (18, true)), (.mv (.t 3))⟩, .pure, [], []⟩, 
  ⟨⟨(some 21), (some (18, true)), (.bin .sub (.t 20) (.k (.int .i64 1)))⟩, .pure, [], []⟩, ⟨⟨(some 22), (some (18, true)), (.ixa 4 (.t 19) (.t 21))⟩, .pure, [], []⟩, 
  ⟨⟨(some 23), (some (18, true)), (.ld (some 4) (.t 22))⟩, .ld, [], []⟩, ⟨⟨(some 24), (some (18, true)), (.ld (some 4) (.t 4))⟩, .ld, [], []⟩, 
  ⟨⟨(some 25), (some (18, true)), (.call f_span_apart [(.t 23), (.t 24)])⟩, .eff, [], []⟩, ⟨⟨(some 26), (some (18, true)), (.un .not (.t 25))⟩, .pure, [], []⟩, 
  ⟨⟨(some 27), (some (15, false)), (.pick (.t 18) (.t 26) (.k (.bool false)))⟩, .pure, [], []⟩, ⟨⟨(some 28), none, (.pick (.t 15) (.k (.bool true)) (.t 27))⟩, .pure, [], []⟩]) 
  (.cond (.t 28) (.seq (.reg [⟨(some 2), none, (.mv (.k (.bool false)))⟩]) .ret) .skip)))) (.reg [⟨(some 29), none, (.bin .add (.t 7) (.k (.int .i64 1)))⟩, 
  ⟨(some 7), none, (.mv (.t 29))⟩]))))))) (.seq (.reg [⟨(some 2), none, (.mv (.k (.bool true)))⟩]) .ret)))⟩
theorem c_span_Sound : compF Try.prog ⟨some 71, some 43⟩ Try.f23 = some r_span_Sound := by kernel_rfl
/-- tenancy/addr.Cmp -/
def r_addr_Cmp : RF :=
  ⟨17, [(.tmp 4)], (.seq (.reg [⟨(some 2), none, (.box (some 2) (.t 0))⟩, ⟨(some 3), none, (.box (some 2) (.t 1))⟩, ⟨(some 4), none, (.mv (.k (.int .i64 0)))⟩]) (.seq 
  (.drw 1 [⟨⟨(some 5), none, (.off 0 (.t 2))⟩, .pure, [], []⟩, ⟨⟨(some 6), none, (.ld none (.t 5))⟩, .ld, [], []⟩, ⟨⟨(some 7), none, (.off 0 (.t 3))⟩, .pure, [1], []⟩, 
  ⟨⟨(some 8), none, (.ld none (.t 7))⟩, .ld, [], []⟩, ⟨⟨(some 9), none, (.call f_cmp_Compare_uint64 [(.t 6), (.t 8)])⟩, .eff, [], [0]⟩, 
  ⟨⟨(some 10), none, (.off 1 (.t 2))⟩, .pure, [1, 3], []⟩, ⟨⟨(some 11), none, (.ld none (.t 10))⟩, .ld, [4], []⟩, ⟨⟨(some 12), none, (.off 1 (.t 3))⟩, .pure, [1, 3, 6], []⟩, 
  ⟨⟨(some 13), none, (.ld none (.t 12))⟩, .ld, [4], []⟩, ⟨⟨(some 14), none, (.call f_cmp_Compare_uint64 [(.t 11), (.t 13)])⟩, .eff, [], [0]⟩, 
  ⟨⟨(some 15), none, (.bsl 1 2 [(.int .i64 0)] [(0, (1, (.t 9))), (1, (1, (.t 14)))])⟩, (.new 0), [], []⟩, ⟨⟨(some 16), none, (.call f_cmp_Or_int [(.t 15)])⟩, .eff, [], []⟩, 
  ⟨⟨(some 4), none, (.mv (.t 16))⟩, .pure, [], []⟩]) .ret))⟩
theorem c_addr_Cmp : compF Try.prog ⟨some 71, some 43⟩ Try.f24 = some r_addr_Cmp := by kernel_rfl
/-- tenancy/span.Has -/
def r_span_Has : RF :=
  ⟨12, [(.tmp 4)], (.seq (.reg [⟨(some 3), none, (.box (some 2) (.t 1))⟩, ⟨(some 4), none, (.mv (.k (.bool false)))⟩]) (.seq (.reg [⟨(some 5), none, (.mv (.t 0))⟩, 
  ⟨(some 6), none, (.call f_span_Sound [(.t 5)])⟩, ⟨(some 7), none, (.mv (.t 6))⟩, ⟨(some 8), (some (7, true)), (.mv (.t 0))⟩, 
  ⟨(some 9), (some (7, true)), (.mkf f_span_Has_1 [(.t 3)])⟩, ⟨(some 10), (some (7, true)), (.call f_slices_ContainsFunc_Range [(.t 8), (.t 9)])⟩, 
  ⟨(some 11), none, (.pick (.t 7) (.t 10) (.k (.bool false)))⟩, ⟨(some 4), none, (.mv (.t 11))⟩]) .ret))⟩
theorem c_span_Has : compF Try.prog ⟨some 71, some 43⟩ Try.f25 = some r_span_Has := by kernel_rfl
/-- tenancy/tenancylaw12.few -/
def r_w12_few : RF :=
  ⟨23, [(.tmp 2)], (.seq (.reg [⟨(some 2), none, (.mv (.k .nils))⟩]) (.seq (.reg [⟨(some 5), none, (.mv (.t 0))⟩, ⟨(some 6), none, (.lenl (.t 5))⟩, 
  ⟨(some 7), none, (.mks 2 16 [(.int .u64 0), (.int .u64 0)] (.k (.int .i64 0)) (.t 6))⟩, ⟨(some 3), none, (.mv (.t 7))⟩]) (.seq (.seq 
  (.reg [⟨(some 4), none, (.mv (.k (.int .i64 0)))⟩]) (.block 0 (.loop (.seq (.seq (.reg [⟨(some 8), none, (.mv (.t 4))⟩, ⟨(some 9), none, (.mv (.t 0))⟩, 
  ⟨(some 10), none, (.lenl (.t 9))⟩, ⟨(some 11), none, (.bin .lss (.t 8) (.t 10))⟩]) (.cond (.t 11) .skip (.exit 0))) (.seq (.block 1 (.reg [⟨(some 14), none, (.mv (.t 3))⟩, 
  ⟨(some 15), none, (.mv (.t 0))⟩, ⟨(some 16), none, (.mv (.t 4))⟩, ⟨(some 17), none, (.ixa 1 (.t 15) (.t 16))⟩, ⟨(some 18), none, (.ld none (.t 17))⟩, 
  ⟨(some 19), none, (.bld [(.int .u64 0), (.int .u64 0)] [(1, (1, (.t 18)))])⟩, ⟨(some 20), none, (.bsl 2 1 [(.int .u64 0), (.int .u64 0)] [(0, (2, (.t 19)))])⟩, 
  ⟨(some 21), none, (.app 2 16 (.t 14) (.t 20))⟩, ⟨(some 3), none, (.mv (.t 21))⟩])) (.reg [⟨(some 12), none, (.mv (.t 4))⟩, 
  ⟨(some 13), none, (.bin .add (.t 12) (.k (.int .i64 1)))⟩, ⟨(some 4), none, (.mv (.t 13))⟩])))))) (.seq (.reg [⟨(some 22), none, (.mv (.t 3))⟩, 
  ⟨(some 2), none, (.mv (.t 22))⟩]) .ret))))⟩
theorem c_w12_few : compF Try.prog ⟨some 71, some 43⟩ Try.f26 = some r_w12_few := by kernel_rfl
/-- tenancy/span.Put -/
def r_span_Put : RF :=
  ⟨63, [(.tmp 4), (.tmp 5)], (.seq (.reg [⟨(some 3), none, (.box (some 4) (.t 1))⟩, ⟨(some 4), none, (.mv (.k .nils))⟩, ⟨(some 5), none, (.mv (.k (.int .i64 0)))⟩]) (.seq (.seq 
  (.reg [⟨(some 10), none, (.mv (.t 0))⟩, ⟨(some 11), none, (.call f_span_Sound [(.t 10)])⟩, ⟨(some 12), none, (.un .not (.t 11))⟩, ⟨(some 13), none, (.mv (.t 12))⟩, 
  ⟨(some 14), (some (13, false)), (.ld (some 4) (.t 3))⟩, ⟨(some 15), (some (13, false)), (.call f_span_isRange [(.t 14)])⟩, ⟨(some 16), (some (13, false)), (.un .not (.t 15))⟩, 
  ⟨(some 17), none, (.pick (.t 13) (.k (.bool true)) (.t 16))⟩]) (.cond (.t 17) (.seq (.reg [⟨(some 4), none, (.mv (.k .nils))⟩, 
  ⟨(some 5), none, (.mv (.k (.int .i64 1)))⟩]) .ret) .skip)) (.seq (.reg [⟨(some 6), none, (.mv (.k .nils))⟩, ⟨(some 7), none, (.mv (.k .nils))⟩]) (.seq (.seq 
  (.reg [⟨(some 18), none, (.mv (.t 0))⟩, ⟨(some 19), none, (.lenl (.t 18))⟩, ⟨(some 20), none, (.mv (.k (.int .i64 0)))⟩]) (.block 0 (.loop (.seq 
  (.reg [⟨(some 21), none, (.bin .lss (.t 20) (.t 19))⟩]) (.seq (.cond (.t 21) .skip (.exit 0)) (.seq (.block 1 (.seq (.reg [⟨(some 22), none, (.ixa 4 (.t 18) (.t 20))⟩, 
  ⟨(some 23), none, (.ld (some 4) (.t 22))⟩, ⟨(some 9), none, (.new [(.int .u64 0), (.int .u64 0), (.int .u64 0), (.int .u64 0)])⟩, ⟨none, none, (.st (some 4) (.t 9) (.t 23))⟩]) 
  (.block 2 (.seq (.reg [⟨(some 41), none, (.ld (some 4) (.t 9))⟩, ⟨(some 42), none, (.ld (some 4) (.t 3))⟩, ⟨(some 43), none, (.call f_span_apart [(.t 41), (.t 42)])⟩, 
  ⟨(some 40), none, (.mv (.t 43))⟩]) (.cond (.t 40) (.reg [⟨(some 44), none, (.mv (.t 6))⟩, ⟨(some 45), none, (.ld (some 4) (.t 9))⟩, 
  ⟨(some 46), none, (.bsl 4 1 [(.int .u64 0), (.int .u64 0), (.int .u64 0), (.int .u64 0)] [(0, (4, (.t 45)))])⟩, ⟨(some 47), none, (.app 4 32 (.t 44) (.t 46))⟩, 
  ⟨(some 6), none, (.mv (.t 47))⟩]) (.seq (.reg [⟨(some 49), none, (.ld (some 4) (.t 3))⟩, ⟨(some 50), none, (.ld (some 4) (.t 9))⟩, 
  ⟨(some 51), none, (.call f_span_apart [(.t 49), (.t 50)])⟩, ⟨(some 48), none, (.mv (.t 51))⟩]) (.cond (.t 48) (.reg [⟨(some 52), none, (.mv (.t 7))⟩, 
  ⟨(some 53), none, (.ld (some 4) (.t 9))⟩, ⟨(some 54), none, (.bsl 4 1 [(.int .u64 0), (.int .u64 0), (.int .u64 0), (.int .u64 0)] [(0, (4, (.t 53)))])⟩, 
  ⟨(some 55), none, (.app 4 32 (.t 52) (.t 54))⟩, ⟨(some 7), none, (.mv (.t 55))⟩]) (.seq (.seq (.reg [⟨(some 24), none, (.off 0 (.t 9))⟩, ⟨(some 25), none, (.ld (some 2) (.t 24))⟩, 
  ⟨(some 26), none, (.off 0 (.t 3))⟩, ⟨(some 27), none, (.ld (some 2) (.t 26))⟩, ⟨(some 28), none, (.call f_span_below [(.t 25), (.t 27)])⟩]) (.cond (.t 28) 
  (.reg [⟨(some 29), none, (.off 0 (.t 9))⟩, ⟨(some 30), none, (.ld (some 2) (.t 29))⟩, ⟨(some 31), none, (.off 0 (.t 3))⟩, ⟨none, none, (.st (some 2) (.t 31) (.t 30))⟩]) .skip)) 
  (.seq (.reg [⟨(some 32), none, (.off 2 (.t 3))⟩, ⟨(some 33), none, (.ld (some 2) (.t 32))⟩, ⟨(some 34), none, (.off 2 (.t 9))⟩, ⟨(some 35), none, (.ld (some 2) (.t 34))⟩, 
  ⟨(some 36), none, (.call f_span_below [(.t 33), (.t 35)])⟩]) (.cond (.t 36) (.reg [⟨(some 37), none, (.off 2 (.t 9))⟩, ⟨(some 38), none, (.ld (some 2) (.t 37))⟩, 
  ⟨(some 39), none, (.off 2 (.t 3))⟩, ⟨none, none, (.st (some 2) (.t 39) (.t 38))⟩]) .skip)))))))))) (.reg [⟨(some 56), none, (.bin .add (.t 20) (.k (.int .i64 1)))⟩, 
  ⟨(some 20), none, (.mv (.t 56))⟩]))))))) (.seq (.reg [⟨(some 57), none, (.mv (.t 6))⟩, ⟨(some 58), none, (.ld (some 4) (.t 3))⟩, 
  ⟨(some 59), none, (.bsl 4 1 [(.int .u64 0), (.int .u64 0), (.int .u64 0), (.int .u64 0)] [(0, (4, (.t 58)))])⟩, ⟨(some 60), none, (.mv (.t 7))⟩, 
  ⟨(some 61), none, (.bsl 1 3 [.nils] [(0, (1, (.t 57))), (1, (1, (.t 59))), (2, (1, (.t 60)))])⟩, ⟨(some 62), none, (.call f_slices_Concat_Range [(.t 61)])⟩, 
  ⟨(some 4), none, (.mv (.t 62))⟩, ⟨(some 5), none, (.mv (.k (.int .i64 0)))⟩]) .ret)))))⟩
theorem c_span_Put : compF Try.prog ⟨some 71, some 43⟩ Try.f27 = some r_span_Put := by kernel_rfl
/-- tenancy/tenancyref03.Put -/
def r_r03_Put : RF :=
  ⟨25, [(.tmp 4), (.tmp 5)], (.seq (.reg [⟨(some 3), none, (.box (some 4) (.t 1))⟩, ⟨(some 4), none, (.mv (.k .nils))⟩, ⟨(some 5), none, (.mv (.k (.int .i64 0)))⟩]) (.seq (.seq 
  (.reg [⟨(some 7), none, (.mv (.t 0))⟩, ⟨(some 8), none, (.call f_r03_Sound [(.t 7)])⟩, ⟨(some 9), none, (.un .not (.t 8))⟩, ⟨(some 10), none, (.mv (.t 9))⟩, 
  ⟨(some 11), (some (10, false)), (.off 0 (.t 3))⟩, ⟨(some 12), (some (10, false)), (.ld (some 2) (.t 11))⟩, ⟨(some 13), (some (10, false)), (.off 2 (.t 3))⟩, 
  ⟨(some 14), (some (10, false)), (.ld (some 2) (.t 13))⟩, ⟨(some 15), (some (10, false)), (.call f_r03_le [(.t 12), (.t 14)])⟩, ⟨(some 16), (some (10, false)), (.un .not (.t 15))⟩, 
  ⟨(some 17), none, (.pick (.t 10) (.k (.bool true)) (.t 16))⟩]) (.cond (.t 17) (.seq (.reg [⟨(some 4), none, (.mv (.k .nils))⟩, 
  ⟨(some 5), none, (.mv (.k (.int .i64 1)))⟩]) .ret) .skip)) (.seq (.reg [⟨(some 18), none, (.ld (some 4) (.t 3))⟩, 
  ⟨(some 19), none, (.bsl 4 1 [(.int .u64 0), (.int .u64 0), (.int .u64 0), (.int .u64 0)] [(0, (4, (.t 18)))])⟩, ⟨(some 6), none, (.mv (.t 19))⟩]) (.seq 
  (.reg [⟨(some 20), none, (.mv (.t 6))⟩, ⟨(some 21), none, (.mv (.t 0))⟩, ⟨(some 22), none, (.app 4 32 (.t 20) (.t 21))⟩, ⟨(some 6), none, (.mv (.t 22))⟩]) (.seq 
  (.reg [⟨(some 23), none, (.mv (.t 6))⟩, ⟨(some 24), none, (.call f_r03_made [(.t 23), (.k .nils)])⟩, ⟨(some 4), none, (.mv (.t 24))⟩, 
  ⟨(some 5), none, (.mv (.k (.int .i64 0)))⟩]) .ret)))))⟩
theorem c_r03_Put : compF Try.prog ⟨some 71, some 43⟩ Try.f28 = some r_r03_Put := by kernel_rfl
/-- tenancy/tenancyref12.less -/
def r_r12_less : RF :=
  ⟨26, [(.tmp 4)], (.seq (.reg [⟨(some 4), none, (.mv (.k .nils))⟩]) (.seq (.seq (.reg [⟨(some 5), none, (.mv (.k (.int .i64 0)))⟩]) (.block 0 (.loop (.seq (.seq 
  (.reg [⟨(some 8), none, (.mv (.t 5))⟩, ⟨(some 9), none, (.mv (.t 1))⟩, ⟨(some 10), none, (.lenl (.t 9))⟩, ⟨(some 11), none, (.bin .lss (.t 8) (.t 10))⟩]) 
  (.cond (.t 11) .skip (.exit 0))) (.seq (.block 1 (.seq (.reg [⟨(some 15), none, (.mv (.t 0))⟩, ⟨(some 16), none, (.mv (.t 1))⟩, ⟨(some 17), none, (.mv (.t 5))⟩, 
  ⟨(some 18), none, (.ixa 2 (.t 16) (.t 17))⟩, ⟨(some 19), none, (.ld (some 2) (.t 18))⟩, ⟨(some 20), none, (.call f_r12_one [(.t 19)])⟩, 
  ⟨(some 21), none, (.call f_r03_Drop [(.t 15), (.t 20)])⟩, ⟨(some 14), none, (.mv (.t 21))⟩, ⟨(some 22), none, (.ext 0 (.t 14))⟩, ⟨(some 23), none, (.ext 1 (.t 14))⟩, 
  ⟨(some 6), none, (.mv (.t 22))⟩, ⟨(some 7), none, (.mv (.t 23))⟩]) (.reg [⟨(some 24), none, (.mv (.t 6))⟩, ⟨(some 0), none, (.mv (.t 24))⟩]))) 
  (.reg [⟨(some 12), none, (.mv (.t 5))⟩, ⟨(some 13), none, (.bin .add (.t 12) (.k (.int .i64 1)))⟩, ⟨(some 5), none, (.mv (.t 13))⟩])))))) (.seq 
  (.reg [⟨(some 25), none, (.mv (.t 0))⟩, ⟨(some 4), none, (.mv (.t 25))⟩]) .ret)))⟩
theorem c_r12_less : compF Try.prog ⟨some 71, some 43⟩ Try.f29 = some r_r12_less := by kernel_rfl
/-- tenancy/span.Less -/
def r_span_Less : RF :=
  ⟨33, [(.tmp 4), (.tmp 5)], (.seq (.reg [⟨(some 4), none, (.mv (.k .nils))⟩, ⟨(some 5), none, (.mv (.k (.int .i64 0)))⟩]) (.seq (.seq (.reg [⟨(some 9), none, (.mv (.t 0))⟩, 
  ⟨(some 10), none, (.call f_span_Sound [(.t 9)])⟩, ⟨(some 11), none, (.un .not (.t 10))⟩, ⟨(some 12), none, (.mv (.t 11))⟩, ⟨(some 13), (some (12, false)), (.mv (.t 1))⟩, 
  ⟨(some 14), (some (12, false)), (.call f_span_Sound [(.t 13)])⟩, ⟨(some 15), (some (12, false)), (.un .not (.t 14))⟩, 
  ⟨(some 16), none, (.pick (.t 12) (.k (.bool true)) (.t 15))⟩]) (.cond (.t 16) (.seq (.reg [⟨(some 4), none, (.mv (.k .nils))⟩, 
  ⟨(some 5), none, (.mv (.k (.int .i64 1)))⟩]) .ret) .skip)) (.seq (.reg [⟨(some 17), none, (.mv (.t 0))⟩, ⟨(some 18), none, (.call f_slices_Clone_Range [(.t 17)])⟩, 
  ⟨(some 6), none, (.mv (.t 18))⟩]) (.seq (.seq (.reg [⟨(some 19), none, (.mv (.t 1))⟩, ⟨(some 20), none, (.lenl (.t 19))⟩, ⟨(some 21), none, (.mv (.k (.int .i64 0)))⟩]) (.block 0 
  (.loop (.seq (.reg [⟨(some 22), none, (.bin .lss (.t 21) (.t 20))⟩]) (.seq (.cond (.t 22) .skip (.exit 0)) (.seq (.block 1 (.seq 
  (.reg [⟨(some 23), none, (.ixa 4 (.t 19) (.t 21))⟩, ⟨(some 24), none, (.ld (some 4) (.t 23))⟩, 
  ⟨(some 8), none, (.new [(.int .u64 0), (.int .u64 0), (.int .u64 0), (.int .u64 0)])⟩, ⟨none, none, (.st (some 4) (.t 8) (.t 24))⟩]) (.reg [⟨(some 26), none, (.mv (.t 6))⟩, 
  ⟨(some 27), none, (.ld (some 4) (.t 8))⟩, ⟨(some 28), none, (.call f_span_Drop [(.t 26), (.t 27)])⟩, ⟨(some 25), none, (.mv (.t 28))⟩, ⟨(some 29), none, (.ext 0 (.t 25))⟩, 
  ⟨(some 30), none, (.ext 1 (.t 25))⟩, ⟨(some 6), none, (.mv (.t 29))⟩]))) (.reg [⟨(some 31), none, (.bin .add (.t 21) (.k (.int .i64 1)))⟩, ⟨(some 21), none, (.mv (.t 31))⟩]))))))) 
  (.seq (.reg [⟨(some 32), none, (.mv (.t 6))⟩, ⟨(some 4), none, (.mv (.t 32))⟩, ⟨(some 5), none, (.mv (.k (.int .i64 0)))⟩]) .ret)))))⟩
theorem c_span_Less : compF Try.prog ⟨some 71, some 43⟩ Try.f30 = some r_span_Less := by kernel_rfl
/-- tenancy/tenancyref03.Sound -/
def r_r03_Sound : RF :=
  ⟨47, [(.tmp 2)], (.seq (.reg [⟨(some 2), none, (.mv (.k (.bool false)))⟩]) (.seq (.seq (.reg [⟨(some 3), none, (.mv (.k (.int .i64 0)))⟩]) (.block 0 (.loop (.seq (.seq 
  (.reg [⟨(some 6), none, (.mv (.t 3))⟩, ⟨(some 7), none, (.mv (.t 0))⟩, ⟨(some 8), none, (.lenl (.t 7))⟩, ⟨(some 9), none, (.bin .lss (.t 6) (.t 8))⟩]) 
  (.cond (.t 9) .skip (.exit 0))) (.seq (.block 1 (.seq (.seq (.drw 0 [⟨⟨(some 12), none, (.mv (.t 0))⟩, .pure, [], []⟩, ⟨⟨(some 13), none, (.mv (.t 3))⟩, .pure, [], []⟩, 
  ⟨⟨(some 14), none, (.ixa 4 (.t 12) (.t 13))⟩, .pure, [], []⟩, ⟨⟨(some 15), none, (.off 0 (.t 14))⟩, .pure, [], []⟩, ⟨⟨(some 16), none, (.ld (some 2) (.t 15))⟩, .ld, [], []⟩, 
  ⟨⟨(some 17), none, (.mv (.t 0))⟩, .pure, [4], []⟩, ⟨⟨(some 18), none, (.mv (.t 3))⟩, .pure, [4], []⟩, ⟨⟨(some 19), none, (.ixa 4 (.t 17) (.t 18))⟩, .pure, [4], []⟩, 
  ⟨⟨(some 20), none, (.off 2 (.t 19))⟩, .pure, [4], []⟩, ⟨⟨(some 21), none, (.ld (some 2) (.t 20))⟩, .ld, [], []⟩, 
  ⟨⟨(some 22), none, (.call f_r03_le [(.t 16), (.t 21)])⟩, .eff, [], []⟩, ⟨⟨(some 23), none, (.un .not (.t 22))⟩, .pure, [], []⟩]) (.cond (.t 23) (.seq 
  (.reg [⟨(some 2), none, (.mv (.k (.bool false)))⟩]) .ret) .skip)) (.seq (.reg [⟨(some 24), none, (.mv (.t 3))⟩, ⟨(some 25), none, (.bin .gtr (.t 24) (.k (.int .i64 0)))⟩]) 
  (.cond (.t 25) (.seq (.reg [⟨(some 27), none, (.mv (.t 0))⟩, ⟨(some 28), none, (.mv (.t 3))⟩, ⟨(some 29), none, (.bin .sub (.t 28) (.k (.int .i64 1)))⟩, 
  ⟨(some 30), none, (.ixa 4 (.t 27) (.t 29))⟩, ⟨(some 31), none, (.off 2 (.t 30))⟩, ⟨(some 32), none, (.ld (some 2) (.t 31))⟩, ⟨(some 33), none, (.call f_r03_next [(.t 32)])⟩, 
  ⟨(some 26), none, (.mv (.t 33))⟩, ⟨(some 34), none, (.ext 0 (.t 26))⟩, ⟨(some 35), none, (.ext 1 (.t 26))⟩, ⟨(some 4), none, (.new [(.int .u64 0), (.int .u64 0)])⟩, 
  ⟨none, none, (.st (some 2) (.t 4) (.t 34))⟩, ⟨(some 5), none, (.mv (.t 35))⟩]) (.seq (.drw 0 [⟨⟨(some 36), none, (.mv (.t 5))⟩, .pure, [], []⟩, 
  ⟨⟨(some 37), none, (.un .not (.t 36))⟩, .pure, [], []⟩, ⟨⟨(some 38), none, (.mv (.t 37))⟩, .pure, [], []⟩, ⟨⟨(some 39), (some (38, false)), (.mv (.t 0))⟩, .pure, [], []⟩, 
  ⟨⟨(some 40), (some (38, false)), (.mv (.t 3))⟩, .pure, [], []⟩, ⟨⟨(some 41), (some (38, false)), (.ixa 4 (.t 39) (.t 40))⟩, .pure, [], []⟩, 
  ⟨⟨(some 42), (some (38, false)), (.off 0 (.t 41))⟩, .pure, [], []⟩, ⟨⟨(some 43), (some (38, false)), (.ld (some 2) (.t 42))⟩, .ld, [], []⟩, 
  ⟨⟨(some 44), (some (38, false)), (.ld (some 2) (.t 4))⟩, .ld, [], []⟩, ⟨⟨(some 45), (some (38, false)), (.call f_r03_le [(.t 43), (.t 44)])⟩, .eff, [], []⟩, 
  ⟨⟨(some 46), none, (.pick (.t 38) (.k (.bool true)) (.t 45))⟩, .pure, [], []⟩]) (.cond (.t 46) (.seq (.reg [⟨(some 2), none, (.mv (.k (.bool false)))⟩]) .ret) .skip))) .skip)))) 
  (.reg [⟨(some 10), none, (.mv (.t 3))⟩, ⟨(some 11), none, (.bin .add (.t 10) (.k (.int .i64 1)))⟩, ⟨(some 3), none, (.mv (.t 11))⟩])))))) (.seq 
  (.reg [⟨(some 2), none, (.mv (.k (.bool true)))⟩]) .ret)))⟩
theorem c_r03_Sound : compF Try.prog ⟨some 71, some 43⟩ Try.f31 = some r_r03_Sound := by kernel_rfl
/-- tenancy/addr.Mod -/
def r_addr_Mod : RF :=
  ⟨55, [(.cell (some 2) 4), (.tmp 5)], (.seq (.reg [⟨(some 2), none, (.box (some 2) (.t 0))⟩, ⟨(some 3), none, (.box (some 2) (.t 1))⟩, 
  ⟨(some 4), none, (.new [(.int .u64 0), (.int .u64 0)])⟩, ⟨(some 5), none, (.mv (.k (.bool false)))⟩]) (.seq (.block 0 (.seq (.reg [⟨(some 11), none, (.ld (some 2) (.t 3))⟩, 
  ⟨(some 12), none, (.bld [(.int .u64 0), (.int .u64 0)] [])⟩, ⟨(some 13), none, (.eq false (.st (.one 0 .i (.one 1 .i .nil))) (.t 11) (.t 12))⟩, ⟨(some 10), none, (.mv (.t 13))⟩]) 
  (.cond (.t 10) (.seq (.reg [⟨(some 14), none, (.bld [(.int .u64 0), (.int .u64 0)] [])⟩, ⟨none, none, (.st (some 2) (.t 4) (.t 14))⟩, 
  ⟨(some 5), none, (.mv (.k (.bool false)))⟩]) .ret) (.seq (.reg [⟨(some 16), none, (.off 0 (.t 3))⟩, ⟨(some 17), none, (.ld none (.t 16))⟩, 
  ⟨(some 18), none, (.eq false .i (.t 17) (.k (.int .u64 0)))⟩, ⟨(some 15), none, (.mv (.t 18))⟩]) (.cond (.t 15) (.seq (.drw 0 [⟨⟨(some 20), none, (.off 0 (.t 2))⟩, .pure, [], []⟩, 
  ⟨⟨(some 21), none, (.ld none (.t 20))⟩, .ld, [], []⟩, ⟨⟨(some 22), none, (.off 1 (.t 3))⟩, .pure, [1], []⟩, ⟨⟨(some 23), none, (.ld none (.t 22))⟩, .ld, [], []⟩, 
  ⟨⟨(some 24), none, (.bin .rem (.t 21) (.t 23))⟩, .pure, [], []⟩, ⟨⟨(some 25), none, (.off 1 (.t 2))⟩, .pure, [1, 3], []⟩, ⟨⟨(some 26), none, (.ld none (.t 25))⟩, .ld, [], []⟩, 
  ⟨⟨(some 27), none, (.off 1 (.t 3))⟩, .pure, [1, 3, 6], []⟩, ⟨⟨(some 28), none, (.ld none (.t 27))⟩, .ld, [], []⟩, 
  ⟨⟨(some 29), none, (.call f_bits_Div64 [(.t 24), (.t 26), (.t 28)])⟩, .eff, [], []⟩, ⟨⟨(some 19), none, (.mv (.t 29))⟩, .pure, [], []⟩, 
  ⟨⟨(some 30), none, (.ext 0 (.t 19))⟩, .pure, [], []⟩, ⟨⟨(some 31), none, (.ext 1 (.t 19))⟩, .pure, [], []⟩, ⟨⟨(some 6), none, (.mv (.t 30))⟩, .pure, [], []⟩, 
  ⟨⟨(some 7), none, (.mv (.t 31))⟩, .pure, [], []⟩]) (.seq (.reg [⟨(some 32), none, (.mv (.t 7))⟩, ⟨(some 33), none, (.bld [(.int .u64 0), (.int .u64 0)] [(1, (1, (.t 32)))])⟩, 
  ⟨none, none, (.st (some 2) (.t 4) (.t 33))⟩, ⟨(some 5), none, (.mv (.k (.bool true)))⟩]) .ret)) .skip))))) (.seq (.seq (.reg [⟨(some 34), none, (.off 0 (.t 3))⟩, 
  ⟨(some 35), none, (.ld none (.t 34))⟩, ⟨(some 36), none, (.call f_bits_LeadingZeros64 [(.t 35)])⟩, ⟨(some 8), none, (.mv (.t 36))⟩]) (.block 1 (.loop (.seq (.seq 
  (.reg [⟨(some 37), none, (.mv (.t 8))⟩, ⟨(some 38), none, (.bin .geq (.t 37) (.k (.int .i64 0)))⟩]) (.cond (.t 38) .skip (.exit 1))) (.seq (.block 2 (.seq 
  (.reg [⟨(some 41), none, (.ld (some 2) (.t 3))⟩, ⟨(some 42), none, (.mv (.t 8))⟩, ⟨(some 43), none, (.call f_addr_Up [(.t 41), (.t 42)])⟩, 
  ⟨(some 9), none, (.new [(.int .u64 0), (.int .u64 0)])⟩, ⟨none, none, (.st (some 2) (.t 9) (.t 43))⟩]) (.seq (.reg [⟨(some 44), none, (.ld (some 2) (.t 2))⟩, 
  ⟨(some 45), none, (.ld (some 2) (.t 9))⟩, ⟨(some 46), none, (.call f_addr_Cmp [(.t 44), (.t 45)])⟩, ⟨(some 47), none, (.bin .geq (.t 46) (.k (.int .i64 0)))⟩]) (.cond (.t 47) 
  (.reg [⟨(some 49), none, (.ld (some 2) (.t 2))⟩, ⟨(some 50), none, (.ld (some 2) (.t 9))⟩, ⟨(some 51), none, (.call f_addr_Sub [(.t 49), (.t 50)])⟩, 
  ⟨(some 48), none, (.mv (.t 51))⟩, ⟨(some 52), none, (.ext 0 (.t 48))⟩, ⟨(some 53), none, (.ext 1 (.t 48))⟩, ⟨none, none, (.st (some 2) (.t 2) (.t 52))⟩]) .skip)))) 
  (.reg [⟨(some 39), none, (.mv (.t 8))⟩, ⟨(some 40), none, (.bin .sub (.t 39) (.k (.int .i64 1)))⟩, ⟨(some 8), none, (.mv (.t 40))⟩])))))) (.seq 
  (.reg [⟨(some 54), none, (.ld (some 2) (.t 2))⟩, ⟨none, none, (.st (some 2) (.t 4) (.t 54))⟩, ⟨(some 5), none, (.mv (.k (.bool true)))⟩]) .ret))))⟩
theorem c_addr_Mod : compF Try.prog ⟨some 71, some 43⟩ Try.f32 = some r_addr_Mod := by kernel_rfl
/-- tenancy/span.Nth -/
def r_span_Nth : RF :=
  ⟨56, [(.cell (some 2) 4), (.tmp 5)], (.seq (.reg [⟨(some 3), none, (.box (some 2) (.t 1))⟩, ⟨(some 4), none, (.new [(.int .u64 0), (.int .u64 0)])⟩, 
  ⟨(some 5), none, (.mv (.k (.bool false)))⟩]) (.seq (.seq (.reg [⟨(some 12), none, (.mv (.t 0))⟩, ⟨(some 13), none, (.call f_span_Sound [(.t 12)])⟩, 
  ⟨(some 14), none, (.un .not (.t 13))⟩]) (.cond (.t 14) (.seq (.reg [⟨(some 15), none, (.bld [(.int .u64 0), (.int .u64 0)] [])⟩, ⟨none, none, (.st (some 2) (.t 4) (.t 15))⟩, 
  ⟨(some 5), none, (.mv (.k (.bool false)))⟩]) .ret) .skip)) (.seq (.seq (.reg [⟨(some 16), none, (.mv (.t 0))⟩, ⟨(some 17), none, (.lenl (.t 16))⟩, 
  ⟨(some 18), none, (.mv (.k (.int .i64 0)))⟩]) (.block 0 (.loop (.seq (.reg [⟨(some 19), none, (.bin .lss (.t 18) (.t 17))⟩]) (.seq (.cond (.t 19) .skip (.exit 0)) (.seq (.block 1 
  (.seq (.reg [⟨(some 20), none, (.ixa 4 (.t 16) (.t 18))⟩, ⟨(some 21), none, (.ld (some 4) (.t 20))⟩, 
  ⟨(some 7), none, (.new [(.int .u64 0), (.int .u64 0), (.int .u64 0), (.int .u64 0)])⟩, ⟨none, none, (.st (some 4) (.t 7) (.t 21))⟩]) (.seq 
  (.reg [⟨(some 23), none, (.off 2 (.t 7))⟩, ⟨(some 24), none, (.ld (some 2) (.t 23))⟩, ⟨(some 25), none, (.off 0 (.t 7))⟩, ⟨(some 26), none, (.ld (some 2) (.t 25))⟩, 
  ⟨(some 27), none, (.call f_addr_Sub [(.t 24), (.t 26)])⟩, ⟨(some 22), none, (.mv (.t 27))⟩, ⟨(some 28), none, (.ext 0 (.t 22))⟩, ⟨(some 29), none, (.ext 1 (.t 22))⟩, 
  ⟨(some 8), none, (.new [(.int .u64 0), (.int .u64 0)])⟩, ⟨none, none, (.st (some 2) (.t 8) (.t 28))⟩, ⟨(some 9), none, (.mv (.t 29))⟩]) (.seq (.seq 
  (.reg [⟨(some 30), none, (.ld (some 2) (.t 8))⟩, ⟨(some 31), none, (.ld (some 2) (.t 3))⟩, ⟨(some 32), none, (.call f_span_below [(.t 30), (.t 31)])⟩, 
  ⟨(some 33), none, (.un .not (.t 32))⟩]) (.cond (.t 33) (.seq (.reg [⟨(some 35), none, (.off 0 (.t 7))⟩, ⟨(some 36), none, (.ld (some 2) (.t 35))⟩, 
  ⟨(some 37), none, (.ld (some 2) (.t 3))⟩, ⟨(some 38), none, (.call f_addr_Add [(.t 36), (.t 37)])⟩, ⟨(some 34), none, (.mv (.t 38))⟩, ⟨(some 39), none, (.ext 0 (.t 34))⟩, 
  ⟨(some 40), none, (.ext 1 (.t 34))⟩, ⟨(some 10), none, (.new [(.int .u64 0), (.int .u64 0)])⟩, ⟨none, none, (.st (some 2) (.t 10) (.t 39))⟩, ⟨(some 11), none, (.mv (.t 40))⟩]) 
  (.seq (.reg [⟨(some 41), none, (.ld (some 2) (.t 10))⟩, ⟨none, none, (.st (some 2) (.t 4) (.t 41))⟩, ⟨(some 5), none, (.mv (.k (.bool true)))⟩]) .ret)) .skip)) (.seq 
  (.reg [⟨(some 43), none, (.ld (some 2) (.t 3))⟩, ⟨(some 44), none, (.ld (some 2) (.t 8))⟩, ⟨(some 45), none, (.call f_addr_Sub [(.t 43), (.t 44)])⟩, 
  ⟨(some 42), none, (.mv (.t 45))⟩, ⟨(some 46), none, (.ext 0 (.t 42))⟩, ⟨(some 47), none, (.ext 1 (.t 42))⟩, ⟨none, none, (.st (some 2) (.t 3) (.t 46))⟩]) 
  (.drw 0 [⟨⟨(some 49), none, (.ld (some 2) (.t 3))⟩, .ld, [], []⟩, ⟨⟨(some 50), none, (.call f_span_one [])⟩, .eff, [0], []⟩, 
  ⟨⟨(some 51), none, (.call f_addr_Sub [(.t 49), (.t 50)])⟩, .eff, [], []⟩, ⟨⟨(some 48), none, (.mv (.t 51))⟩, .pure, [], []⟩, ⟨⟨(some 52), none, (.ext 0 (.t 48))⟩, .pure, [], []⟩, 
  ⟨⟨(some 53), none, (.ext 1 (.t 48))⟩, .pure, [], []⟩, ⟨⟨none, none, (.st (some 2) (.t 3) (.t 52))⟩, .eff, [], []⟩])))))) 
  (.reg [⟨(some 54), none, (.bin .add (.t 18) (.k (.int .i64 1)))⟩, ⟨(some 18), none, (.mv (.t 54))⟩]))))))) (.seq 
  (.reg [⟨(some 55), none, (.bld [(.int .u64 0), (.int .u64 0)] [])⟩, ⟨none, none, (.st (some 2) (.t 4) (.t 55))⟩, ⟨(some 5), none, (.mv (.k (.bool false)))⟩]) .ret))))⟩
theorem c_span_Nth : compF Try.prog ⟨some 71, some 43⟩ Try.f33 = some r_span_Nth := by kernel_rfl
/-- tenancy/tenancyref03.Count -/
def r_r03_Count : RF :=
  ⟨36, [(.cell (some 2) 2), (.tmp 3)], (.seq (.reg [⟨(some 2), none, (.new [(.int .u64 0), (.int .u64 0)])⟩, ⟨(some 3), none, (.mv (.k (.bool false)))⟩]) (.seq 
  (.reg [⟨(some 6), none, (.bld [(.int .u64 0), (.int .u64 0)] [])⟩, ⟨(some 4), none, (.new [(.int .u64 0), (.int .u64 0)])⟩, ⟨none, none, (.st (some 2) (.t 4) (.t 6))⟩]) (.seq 
  (.seq (.reg [⟨(some 7), none, (.mv (.t 0))⟩, ⟨(some 8), none, (.call f_r03_Sound [(.t 7)])⟩, ⟨(some 9), none, (.un .not (.t 8))⟩]) (.cond (.t 9) (.seq 
  (.reg [⟨(some 10), none, (.ld (some 2) (.t 4))⟩, ⟨none, none, (.st (some 2) (.t 2) (.t 10))⟩, ⟨(some 3), none, (.mv (.k (.bool false)))⟩]) .ret) .skip)) (.seq (.seq 
  (.reg [⟨(some 5), none, (.mv (.k (.int .i64 0)))⟩]) (.block 0 (.loop (.seq (.seq (.reg [⟨(some 11), none, (.mv (.t 5))⟩, ⟨(some 12), none, (.mv (.t 0))⟩, 
  ⟨(some 13), none, (.lenl (.t 12))⟩, ⟨(some 14), none, (.bin .lss (.t 11) (.t 13))⟩]) (.cond (.t 14) .skip (.exit 0))) (.seq (.block 1 
  (.drw 0 [⟨⟨(some 18), none, (.ld (some 2) (.t 4))⟩, .ld, [], []⟩, ⟨⟨(some 19), none, (.mv (.t 0))⟩, .pure, [0], []⟩, ⟨⟨(some 20), none, (.mv (.t 5))⟩, .pure, [0], []⟩, 
  ⟨⟨(some 21), none, (.ixa 4 (.t 19) (.t 20))⟩, .pure, [0], []⟩, ⟨⟨(some 22), none, (.ld (some 4) (.t 21))⟩, .ld, [], []⟩, 
  ⟨⟨(some 23), none, (.call f_r03_size [(.t 22)])⟩, .eff, [0], []⟩, ⟨⟨(some 24), none, (.call f_r01_Add [(.t 18), (.t 23)])⟩, .eff, [], []⟩, 
  ⟨⟨(some 17), none, (.mv (.t 24))⟩, .pure, [], []⟩, ⟨⟨(some 25), none, (.ext 0 (.t 17))⟩, .pure, [], []⟩, ⟨⟨(some 26), none, (.ext 1 (.t 17))⟩, .pure, [], []⟩, 
  ⟨⟨none, none, (.st (some 2) (.t 4) (.t 25))⟩, .eff, [], []⟩])) (.reg [⟨(some 15), none, (.mv (.t 5))⟩, ⟨(some 16), none, (.bin .add (.t 15) (.k (.int .i64 1)))⟩, 
  ⟨(some 5), none, (.mv (.t 16))⟩])))))) (.seq (.drw 0 [⟨⟨(some 27), none, (.ld (some 2) (.t 4))⟩, .ld, [], []⟩, ⟨⟨(some 28), none, (.mv (.t 0))⟩, .pure, [0], []⟩, 
  ⟨⟨(some 29), none, (.lenl (.t 28))⟩, .pure, [0], []⟩, ⟨⟨(some 30), none, (.eq false .i (.t 29) (.k (.int .i64 1)))⟩, .pure, [0], []⟩, 
  ⟨⟨(some 31), none, (.mv (.t 30))⟩, .pure, [0], []⟩, ⟨⟨(some 32), (some (31, true)), (.ld (some 2) (.t 4))⟩, .ld, [], []⟩, 
  ⟨⟨(some 33), (some (31, true)), (.bld [(.int .u64 0), (.int .u64 0)] [])⟩, .pure, [0, 5], []⟩, 
  ⟨⟨(some 34), (some (31, true)), (.eq false (.st (.one 0 .i (.one 1 .i .nil))) (.t 32) (.t 33))⟩, .pure, [0], []⟩, 
  ⟨⟨(some 35), none, (.pick (.t 31) (.t 34) (.k (.bool false)))⟩, .pure, [0], []⟩, ⟨⟨none, none, (.st (some 2) (.t 2) (.t 27))⟩, .eff, [5], []⟩, 
  ⟨⟨(some 3), none, (.mv (.t 35))⟩, .pure, [], []⟩]) .ret)))))⟩
theorem c_r03_Count : compF Try.prog ⟨some 71, some 43⟩ Try.f34 = some r_r03_Count := by kernel_rfl
/-- tenancy/tenancyref01.Mod -/
def r_r01_Mod : RF :=
  ⟨43, [(.cell (some 2) 4), (.tmp 5)], (.seq (.reg [⟨(some 2), none, (.box (some 2) (.t 0))⟩, ⟨(some 3), none, (.box (some 2) (.t 1))⟩, 
  ⟨(some 4), none, (.new [(.int .u64 0), (.int .u64 0)])⟩, ⟨(some 5), none, (.mv (.k (.bool false)))⟩]) (.seq (.seq (.reg [⟨(some 9), none, (.ld (some 2) (.t 3))⟩, 
  ⟨(some 10), none, (.bld [(.int .u64 0), (.int .u64 0)] [])⟩, ⟨(some 11), none, (.eq false (.st (.one 0 .i (.one 1 .i .nil))) (.t 9) (.t 10))⟩]) (.cond (.t 11) (.seq 
  (.reg [⟨(some 12), none, (.bld [(.int .u64 0), (.int .u64 0)] [])⟩, ⟨none, none, (.st (some 2) (.t 4) (.t 12))⟩, ⟨(some 5), none, (.mv (.k (.bool false)))⟩]) .ret) .skip)) (.seq 
  (.reg [⟨(some 13), none, (.bld [(.int .u64 0), (.int .u64 0)] [])⟩, ⟨(some 6), none, (.new [(.int .u64 0), (.int .u64 0)])⟩, ⟨none, none, (.st (some 2) (.t 6) (.t 13))⟩]) (.seq 
  (.seq (.reg [⟨(some 7), none, (.mv (.k (.int .i64 0)))⟩]) (.block 0 (.loop (.seq (.seq (.reg [⟨(some 14), none, (.mv (.t 7))⟩, 
  ⟨(some 15), none, (.bin .lss (.t 14) (.k (.int .i64 128)))⟩]) (.cond (.t 15) .skip (.exit 0))) (.seq (.block 1 (.seq (.reg [⟨(some 18), none, (.ld (some 2) (.t 6))⟩, 
  ⟨(some 19), none, (.call f_r01_bit [(.t 18), (.k (.int .i64 0))])⟩, ⟨(some 20), none, (.eq false .i (.t 19) (.k (.int .u64 1)))⟩, ⟨(some 8), none, (.mv (.t 20))⟩]) (.seq 
  (.reg [⟨(some 21), none, (.ld (some 2) (.t 6))⟩, ⟨(some 22), none, (.call f_r01_Up [(.t 21), (.k (.int .i64 1))])⟩, ⟨none, none, (.st (some 2) (.t 6) (.t 22))⟩]) (.seq (.seq 
  (.reg [⟨(some 23), none, (.ld (some 2) (.t 2))⟩, ⟨(some 24), none, (.mv (.t 7))⟩, ⟨(some 25), none, (.call f_r01_bit [(.t 23), (.t 24)])⟩, 
  ⟨(some 26), none, (.eq false .i (.t 25) (.k (.int .u64 1)))⟩]) (.cond (.t 26) (.reg [⟨(some 27), none, (.ld (some 2) (.t 6))⟩, 
  ⟨(some 28), none, (.call f_r01_with [(.t 27), (.k (.int .i64 127))])⟩, ⟨none, none, (.st (some 2) (.t 6) (.t 28))⟩]) .skip)) (.seq (.reg [⟨(some 29), none, (.mv (.t 8))⟩, 
  ⟨(some 30), none, (.mv (.t 29))⟩, ⟨(some 31), (some (30, false)), (.ld (some 2) (.t 6))⟩, ⟨(some 32), (some (30, false)), (.ld (some 2) (.t 3))⟩, 
  ⟨(some 33), (some (30, false)), (.call f_r01_Cmp [(.t 31), (.t 32)])⟩, ⟨(some 34), (some (30, false)), (.bin .geq (.t 33) (.k (.int .i64 0)))⟩, 
  ⟨(some 35), none, (.pick (.t 30) (.k (.bool true)) (.t 34))⟩]) (.cond (.t 35) (.reg [⟨(some 37), none, (.ld (some 2) (.t 6))⟩, ⟨(some 38), none, (.ld (some 2) (.t 3))⟩, 
  ⟨(some 39), none, (.call f_r01_Sub [(.t 37), (.t 38)])⟩, ⟨(some 36), none, (.mv (.t 39))⟩, ⟨(some 40), none, (.ext 0 (.t 36))⟩, ⟨(some 41), none, (.ext 1 (.t 36))⟩, 
  ⟨none, none, (.st (some 2) (.t 6) (.t 40))⟩]) .skip)))))) (.reg [⟨(some 16), none, (.mv (.t 7))⟩, ⟨(some 17), none, (.bin .add (.t 16) (.k (.int .i64 1)))⟩, 
  ⟨(some 7), none, (.mv (.t 17))⟩])))))) (.seq (.reg [⟨(some 42), none, (.ld (some 2) (.t 6))⟩, ⟨none, none, (.st (some 2) (.t 4) (.t 42))⟩, 
  ⟨(some 5), none, (.mv (.k (.bool true)))⟩]) .ret)))))⟩
theorem c_r01_Mod : compF Try.prog ⟨some 71, some 43⟩ Try.f35 = some r_r01_Mod := by kernel_rfl
/-- tenancy/tenancyref03.Nth -/
def r_r03_Nth : RF :=
  ⟨61, [(.cell (some 2) 4), (.tmp 5)], (.seq (.reg [⟨(some 3), none, (.box (some 2) (.t 1))⟩, ⟨(some 4), none, (.new [(.int .u64 0), (.int .u64 0)])⟩, 
  ⟨(some 5), none, (.mv (.k (.bool false)))⟩]) (.seq (.seq (.reg [⟨(some 11), none, (.mv (.t 0))⟩, ⟨(some 12), none, (.call f_r03_Sound [(.t 11)])⟩, 
  ⟨(some 13), none, (.un .not (.t 12))⟩]) (.cond (.t 13) (.seq (.reg [⟨(some 14), none, (.bld [(.int .u64 0), (.int .u64 0)] [])⟩, ⟨none, none, (.st (some 2) (.t 4) (.t 14))⟩, 
  ⟨(some 5), none, (.mv (.k (.bool false)))⟩]) .ret) .skip)) (.seq (.seq (.reg [⟨(some 6), none, (.mv (.k (.int .i64 0)))⟩]) (.block 0 (.loop (.seq (.seq 
  (.reg [⟨(some 15), none, (.mv (.t 6))⟩, ⟨(some 16), none, (.mv (.t 0))⟩, ⟨(some 17), none, (.lenl (.t 16))⟩, ⟨(some 18), none, (.bin .lss (.t 15) (.t 17))⟩]) 
  (.cond (.t 18) .skip (.exit 0))) (.seq (.block 1 (.seq (.drw 1 [⟨⟨(some 22), none, (.mv (.t 0))⟩, .pure, [], []⟩, ⟨⟨(some 23), none, (.mv (.t 6))⟩, .pure, [], []⟩, 
  ⟨⟨(some 24), none, (.ixa 4 (.t 22) (.t 23))⟩, .pure, [], []⟩, ⟨⟨(some 25), none, (.off 2 (.t 24))⟩, .pure, [], []⟩, ⟨⟨(some 26), none, (.ld (some 2) (.t 25))⟩, .ld, [], []⟩, 
  ⟨⟨(some 27), none, (.mv (.t 0))⟩, .pure, [4], []⟩, ⟨⟨(some 28), none, (.mv (.t 6))⟩, .pure, [4], []⟩, ⟨⟨(some 29), none, (.ixa 4 (.t 27) (.t 28))⟩, .pure, [4], []⟩, 
  ⟨⟨(some 30), none, (.off 0 (.t 29))⟩, .pure, [4], []⟩, ⟨⟨(some 31), none, (.ld (some 2) (.t 30))⟩, .ld, [], []⟩, 
  ⟨⟨(some 32), none, (.call f_r01_Sub [(.t 26), (.t 31)])⟩, .eff, [], [0]⟩, ⟨⟨(some 21), none, (.mv (.t 32))⟩, .pure, [], []⟩, ⟨⟨(some 33), none, (.ext 0 (.t 21))⟩, .pure, [], []⟩, 
  ⟨⟨(some 34), none, (.ext 1 (.t 21))⟩, .pure, [], []⟩, ⟨⟨(some 7), none, (.new [(.int .u64 0), (.int .u64 0)])⟩, (.new 0), [4, 9], []⟩, 
  ⟨⟨none, none, (.st (some 2) (.t 7) (.t 33))⟩, .eff, [], []⟩, ⟨⟨(some 8), none, (.mv (.t 34))⟩, .pure, [], []⟩]) (.seq (.seq (.reg [⟨(some 35), none, (.ld (some 2) (.t 3))⟩, 
  ⟨(some 36), none, (.ld (some 2) (.t 7))⟩, ⟨(some 37), none, (.call f_r03_le [(.t 35), (.t 36)])⟩]) (.cond (.t 37) (.seq (.drw 1 [⟨⟨(some 39), none, (.mv (.t 0))⟩, .pure, [], []⟩, 
  ⟨⟨(some 40), none, (.mv (.t 6))⟩, .pure, [], []⟩, ⟨⟨(some 41), none, (.ixa 4 (.t 39) (.t 40))⟩, .pure, [], []⟩, ⟨⟨(some 42), none, (.off 0 (.t 41))⟩, .pure, [], []⟩, 
  ⟨⟨(some 43), none, (.ld (some 2) (.t 42))⟩, .ld, [], []⟩, ⟨⟨(some 44), none, (.ld (some 2) (.t 3))⟩, .ld, [], []⟩, 
  ⟨⟨(some 45), none, (.call f_r01_Add [(.t 43), (.t 44)])⟩, .eff, [], [0]⟩, ⟨⟨(some 38), none, (.mv (.t 45))⟩, .pure, [], []⟩, ⟨⟨(some 46), none, (.ext 0 (.t 38))⟩, .pure, [], []⟩, 
  ⟨⟨(some 47), none, (.ext 1 (.t 38))⟩, .pure, [], []⟩, ⟨⟨(some 9), none, (.new [(.int .u64 0), (.int .u64 0)])⟩, (.new 0), [4, 5], []⟩, 
  ⟨⟨none, none, (.st (some 2) (.t 9) (.t 46))⟩, .eff, [], []⟩, ⟨⟨(some 10), none, (.mv (.t 47))⟩, .pure, [], []⟩]) (.seq (.reg [⟨(some 48), none, (.ld (some 2) (.t 9))⟩, 
  ⟨none, none, (.st (some 2) (.t 4) (.t 48))⟩, ⟨(some 5), none, (.mv (.k (.bool true)))⟩]) .ret)) .skip)) (.seq (.reg [⟨(some 50), none, (.ld (some 2) (.t 3))⟩, 
  ⟨(some 51), none, (.ld (some 2) (.t 7))⟩, ⟨(some 52), none, (.call f_r01_Sub [(.t 50), (.t 51)])⟩, ⟨(some 49), none, (.mv (.t 52))⟩, ⟨(some 53), none, (.ext 0 (.t 49))⟩, 
  ⟨(some 54), none, (.ext 1 (.t 49))⟩, ⟨none, none, (.st (some 2) (.t 3) (.t 53))⟩]) (.reg [⟨(some 56), none, (.ld (some 2) (.t 3))⟩, 
  ⟨(some 57), none, (.call f_r03_ahead [(.t 56)])⟩, ⟨(some 55), none, (.mv (.t 57))⟩, ⟨(some 58), none, (.ext 0 (.t 55))⟩, ⟨(some 59), none, (.ext 1 (.t 55))⟩, 
  ⟨none, none, (.st (some 2) (.t 3) (.t 58))⟩]))))) (.reg [⟨(some 19), none, (.mv (.t 6))⟩, ⟨(some 20), none, (.bin .add (.t 19) (.k (.int .i64 1)))⟩, 
  ⟨(some 6), none, (.mv (.t 20))⟩])))))) (.seq (.reg [⟨(some 60), none, (.bld [(.int .u64 0), (.int .u64 0)] [])⟩, ⟨none, none, (.st (some 2) (.t 4) (.t 60))⟩, 
  ⟨(some 5), none, (.mv (.k (.bool false)))⟩]) .ret))))⟩
theorem c_r03_Nth : compF Try.prog ⟨some 71, some 43⟩ Try.f36 = some r_r03_Nth := by kernel_rfl
/-- slices.SortFunc[[]tenancy/api.Addr,tenancy/api.Addr] -/
def r_slices_SortFunc_Addr : RF :=
  ⟨14, [], (.seq (.reg [⟨(some 5), none, (.mv (.t 0))⟩, ⟨(some 6), none, (.lenl (.t 5))⟩, ⟨(some 4), none, (.mv (.t 6))⟩]) (.reg [⟨(some 7), none, (.mv (.t 0))⟩, 
  ⟨(some 8), none, (.mv (.t 4))⟩, ⟨(some 9), none, (.mv (.t 4))⟩, ⟨(some 10), none, (.cvi .u64 (.t 9))⟩, ⟨(some 11), none, (.call f_bits_Len [(.t 10)])⟩, 
  ⟨(some 12), none, (.mv (.t 1))⟩, ⟨(some 13), none, (.call f_slices_pdqsortCmpFunc_Addr [(.t 7), (.k (.int .i64 0)), (.t 8), (.t 11), (.t 12)])⟩]))⟩
theorem c_slices_SortFunc_Addr : compF Try.prog ⟨some 71, some 43⟩ Try.f37 = some r_slices_SortFunc_Addr := by kernel_rfl
/-- slices.Compact[[]tenancy/api.Addr,tenancy/api.Addr] -/
def r_slices_Compact_Addr : RF :=
  ⟨61, [(.tmp 2)], (.seq (.reg [⟨(some 2), none, (.mv (.k .nils))⟩]) (.seq (.seq (.reg [⟨(some 6), none, (.mv (.t 0))⟩, ⟨(some 7), none, (.lenl (.t 6))⟩, 
  ⟨(some 8), none, (.bin .lss (.t 7) (.k (.int .i64 2)))⟩]) (.cond (.t 8) (.seq (.reg [⟨(some 9), none, (.mv (.t 0))⟩, ⟨(some 2), none, (.mv (.t 9))⟩]) .ret) .skip)) (.seq (.seq 
  (.reg [⟨(some 3), none, (.mv (.k (.int .i64 1)))⟩]) (.block 0 (.loop (.seq (.seq (.reg [⟨(some 10), none, (.mv (.t 3))⟩, ⟨(some 11), none, (.mv (.t 0))⟩, 
  ⟨(some 12), none, (.lenl (.t 11))⟩, ⟨(some 13), none, (.bin .lss (.t 10) (.t 12))⟩]) (.cond (.t 13) .skip (.exit 0))) (.seq (.block 1 (.seq 
  (.drw 0 [⟨⟨(some 16), none, (.mv (.t 0))⟩, .pure, [], []⟩, ⟨⟨(some 17), none, (.mv (.t 3))⟩, .pure, [], []⟩, ⟨⟨(some 18), none, (.ixa 2 (.t 16) (.t 17))⟩, .pure, [], []⟩, 
  ⟨⟨(some 19), none, (.ld (some 2) (.t 18))⟩, .ld, [], []⟩, ⟨⟨(some 20), none, (.mv (.t 0))⟩, .pure, [3], []⟩, ⟨⟨(some 21), none, (.mv (.t 3))⟩, .pure, [3], []⟩, 
  ⟨⟨(some 22), none, (.bin .sub (.t 21) (.k (.int .i64 1)))⟩, .pure, [3], []⟩, ⟨⟨(some 23), none, (.ixa 2 (.t 20) (.t 22))⟩, .pure, [3], []⟩, 
  ⟨⟨(some 24), none, (.ld (some 2) (.t 23))⟩, .ld, [], []⟩, ⟨⟨(some 25), none, (.eq false (.st (.one 0 .i (.one 1 .i .nil))) (.t 19) (.t 24))⟩, .pure, [], []⟩]) (.cond (.t 25) (.seq 
  (.reg [⟨(some 26), none, (.mv (.t 0))⟩, ⟨(some 27), none, (.mv (.t 3))⟩, ⟨(some 28), none, (.slc 2 (.t 26) (some (.t 27)) none none)⟩, ⟨(some 4), none, (.mv (.t 28))⟩]) (.seq 
  (.seq (.reg [⟨(some 5), none, (.mv (.k (.int .i64 1)))⟩]) (.block 2 (.loop (.seq (.seq (.reg [⟨(some 29), none, (.mv (.t 5))⟩, ⟨(some 30), none, (.mv (.t 4))⟩, 
  ⟨(some 31), none, (.lenl (.t 30))⟩, ⟨(some 32), none, (.bin .lss (.t 29) (.t 31))⟩]) (.cond (.t 32) .skip (.exit 2))) (.seq (.block 3 (.seq 
  (.drw 0 [⟨⟨(some 35), none, (.mv (.t 4))⟩, .pure, [], []⟩, ⟨⟨(some 36), none, (.mv (.t 5))⟩, .pure, [], []⟩, ⟨⟨(some 37), none, (.ixa 2 (.t 35) (.t 36))⟩, .pure, [], []⟩, 
  ⟨⟨(some 38), none, (.ld (some 2) (.t 37))⟩, .ld, [], []⟩, ⟨⟨(some 39), none, (.mv (.t 4))⟩, .pure, [3], []⟩, ⟨⟨(some 40), none, (.mv (.t 5))⟩, .pure, [3], []⟩, 
  ⟨⟨(some 41), none, (.bin .sub (.t 40) (.k (.int .i64 1)))⟩, .pure, [3], []⟩, ⟨⟨(some 42), none, (.ixa 2 (.t 39) (.t 41))⟩, .pure, [3], []⟩, 
  ⟨⟨(some 43), none, (.ld (some 2) (.t 42))⟩, .ld, [], []⟩, ⟨⟨(some 44), none, (.eq true (.st (.one 0 .i (.one 1 .i .nil))) (.t 38) (.t 43))⟩, .pure, [], []⟩]) (.cond (.t 44) (.seq 
  (.reg [⟨(some 45), none, (.mv (.t 0))⟩, ⟨(some 46), none, (.mv (.t 3))⟩, ⟨(some 47), none, (.mv (.t 4))⟩, ⟨(some 48), none, (.mv (.t 5))⟩, 
  ⟨(some 49), none, (.ixa 2 (.t 47) (.t 48))⟩, ⟨(some 50), none, (.ld (some 2) (.t 49))⟩, ⟨(some 51), none, (.ixa 2 (.t 45) (.t 46))⟩, ⟨none, none, (.st (some 2) (.t 51) (.t 50))⟩]) 
  (.reg [⟨(some 52), none, (.mv (.t 3))⟩, ⟨(some 53), none, (.bin .add (.t 52) (.k (.int .i64 1)))⟩, ⟨(some 3), none, (.mv (.t 53))⟩])) .skip))) 
  (.reg [⟨(some 33), none, (.mv (.t 5))⟩, ⟨(some 34), none, (.bin .add (.t 33) (.k (.int .i64 1)))⟩, ⟨(some 5), none, (.mv (.t 34))⟩])))))) (.seq 
  (.reg [⟨(some 54), none, (.mv (.t 0))⟩, ⟨(some 55), none, (.mv (.t 3))⟩, ⟨(some 56), none, (.slc 2 (.t 54) (some (.t 55)) none none)⟩, 
  ⟨none, none, (.xt (.clr 2 [(.int .u64 0), (.int .u64 0)]) [(.t 56)])⟩]) (.seq (.reg [⟨(some 57), none, (.mv (.t 0))⟩, ⟨(some 58), none, (.mv (.t 3))⟩, 
  ⟨(some 59), none, (.slc 2 (.t 57) none (some (.t 58)) none)⟩, ⟨(some 2), none, (.mv (.t 59))⟩]) .ret)))) .skip))) (.reg [⟨(some 14), none, (.mv (.t 3))⟩, 
  ⟨(some 15), none, (.bin .add (.t 14) (.k (.int .i64 1)))⟩, ⟨(some 3), none, (.mv (.t 15))⟩])))))) (.seq (.reg [⟨(some 60), none, (.mv (.t 0))⟩, 
  ⟨(some 2), none, (.mv (.t 60))⟩]) .ret))))⟩
theorem c_slices_Compact_Addr : compF Try.prog ⟨some 71, some 43⟩ Try.f38 = some r_slices_Compact_Addr := by kernel_rfl
/-- tenancy/tenancyref12.with -/
def r_r12_with : RF :=
  ⟨49, [(.tmp 4)], (.seq (.reg [⟨(some 3), none, (.box (some 2) (.t 1))⟩, ⟨(some 4), none, (.mv (.k .nils))⟩]) (.seq 
  (.reg [⟨(some 9), none, (.bsl 2 0 [(.int .u64 0), (.int .u64 0)] [])⟩, ⟨(some 5), none, (.mv (.t 9))⟩]) (.seq (.reg [⟨(some 6), none, (.mv (.k (.bool false)))⟩]) (.seq (.seq 
  (.reg [⟨(some 7), none, (.mv (.k (.int .i64 0)))⟩]) (.block 0 (.loop (.seq (.seq (.reg [⟨(some 10), none, (.mv (.t 7))⟩, ⟨(some 11), none, (.mv (.t 0))⟩, 
  ⟨(some 12), none, (.lenl (.t 11))⟩, ⟨(some 13), none, (.bin .lss (.t 10) (.t 12))⟩]) (.cond (.t 13) .skip (.exit 0))) (.seq (.block 1 (.seq 
  (.drw 0 [⟨⟨(some 16), none, (.ld (some 2) (.t 3))⟩, .ld, [], []⟩, ⟨⟨(some 17), none, (.mv (.t 0))⟩, .pure, [0], []⟩, ⟨⟨(some 18), none, (.mv (.t 7))⟩, .pure, [0], []⟩, 
  ⟨⟨(some 19), none, (.ixa 2 (.t 17) (.t 18))⟩, .pure, [0], []⟩, ⟨⟨(some 20), none, (.ld (some 2) (.t 19))⟩, .ld, [], []⟩, 
  ⟨⟨(some 21), none, (.call f_r01_Cmp [(.t 16), (.t 20)])⟩, .eff, [], []⟩, ⟨⟨(some 8), none, (.mv (.t 21))⟩, .pure, [], []⟩]) (.seq (.seq (.reg [⟨(some 22), none, (.mv (.t 8))⟩, 
  ⟨(some 23), none, (.eq false .i (.t 22) (.k (.int .i64 0)))⟩]) (.cond (.t 23) (.seq (.reg [⟨(some 24), none, (.mv (.t 0))⟩, ⟨(some 4), none, (.mv (.t 24))⟩]) .ret) .skip)) (.seq 
  (.seq (.reg [⟨(some 25), none, (.mv (.t 8))⟩, ⟨(some 26), none, (.bin .lss (.t 25) (.k (.int .i64 0)))⟩, ⟨(some 27), none, (.mv (.t 26))⟩, 
  ⟨(some 28), (some (27, true)), (.mv (.t 6))⟩, ⟨(some 29), (some (27, true)), (.un .not (.t 28))⟩, ⟨(some 30), none, (.pick (.t 27) (.t 29) (.k (.bool false)))⟩]) (.cond (.t 30) 
  (.seq (.reg [⟨(some 31), none, (.mv (.t 5))⟩, ⟨(some 32), none, (.ld (some 2) (.t 3))⟩, ⟨(some 33), none, (.bsl 2 1 [(.int .u64 0), (.int .u64 0)] [(0, (2, (.t 32)))])⟩, 
  ⟨(some 34), none, (.app 2 16 (.t 31) (.t 33))⟩, ⟨(some 5), none, (.mv (.t 34))⟩]) (.reg [⟨(some 6), none, (.mv (.k (.bool true)))⟩])) .skip)) 
  (.reg [⟨(some 35), none, (.mv (.t 5))⟩, ⟨(some 36), none, (.mv (.t 0))⟩, ⟨(some 37), none, (.mv (.t 7))⟩, ⟨(some 38), none, (.ixa 2 (.t 36) (.t 37))⟩, 
  ⟨(some 39), none, (.ld (some 2) (.t 38))⟩, ⟨(some 40), none, (.bsl 2 1 [(.int .u64 0), (.int .u64 0)] [(0, (2, (.t 39)))])⟩, ⟨(some 41), none, (.app 2 16 (.t 35) (.t 40))⟩, 
  ⟨(some 5), none, (.mv (.t 41))⟩]))))) (.reg [⟨(some 14), none, (.mv (.t 7))⟩, ⟨(some 15), none, (.bin .add (.t 14) (.k (.int .i64 1)))⟩, ⟨(some 7), none, (.mv (.t 15))⟩])))))) 
  (.seq (.seq (.reg [⟨(some 42), none, (.mv (.t 6))⟩, ⟨(some 43), none, (.un .not (.t 42))⟩]) (.cond (.t 43) (.reg [⟨(some 44), none, (.mv (.t 5))⟩, 
  ⟨(some 45), none, (.ld (some 2) (.t 3))⟩, ⟨(some 46), none, (.bsl 2 1 [(.int .u64 0), (.int .u64 0)] [(0, (2, (.t 45)))])⟩, ⟨(some 47), none, (.app 2 16 (.t 44) (.t 46))⟩, 
  ⟨(some 5), none, (.mv (.t 47))⟩]) .skip)) (.seq (.reg [⟨(some 48), none, (.mv (.t 5))⟩, ⟨(some 4), none, (.mv (.t 48))⟩]) .ret))))))⟩
theorem c_r12_with : compF Try.prog ⟨some 71, some 43⟩ Try.f39 = some r_r12_with := by kernel_rfl
/-- tenancy/addr.Add -/
def r_addr_Add : RF :=
  ⟨31, [(.cell (some 2) 4), (.tmp 5)], (.seq (.reg [⟨(some 2), none, (.box (some 2) (.t 0))⟩, ⟨(some 3), none, (.box (some 2) (.t 1))⟩, 
  ⟨(some 4), none, (.new [(.int .u64 0), (.int .u64 0)])⟩, ⟨(some 5), none, (.mv (.k (.bool false)))⟩]) (.seq (.reg [⟨(some 10), none, (.off 1 (.t 2))⟩, 
  ⟨(some 11), none, (.ld none (.t 10))⟩, ⟨(some 12), none, (.off 1 (.t 3))⟩, ⟨(some 13), none, (.ld none (.t 12))⟩, ⟨(some 14), none, (.add64 (.t 11) (.t 13) (.k (.int .u64 0)))⟩, 
  ⟨(some 9), none, (.mv (.t 14))⟩, ⟨(some 15), none, (.ext 0 (.t 9))⟩, ⟨(some 16), none, (.ext 1 (.t 9))⟩, ⟨(some 6), none, (.mv (.t 15))⟩, ⟨(some 7), none, (.mv (.t 16))⟩]) (.seq 
  (.reg [⟨(some 18), none, (.off 0 (.t 2))⟩, ⟨(some 19), none, (.ld none (.t 18))⟩, ⟨(some 20), none, (.off 0 (.t 3))⟩, ⟨(some 21), none, (.ld none (.t 20))⟩, 
  ⟨(some 22), none, (.mv (.t 7))⟩, ⟨(some 23), none, (.add64 (.t 19) (.t 21) (.t 22))⟩, ⟨(some 17), none, (.mv (.t 23))⟩, ⟨(some 24), none, (.ext 0 (.t 17))⟩, 
  ⟨(some 25), none, (.ext 1 (.t 17))⟩, ⟨(some 8), none, (.mv (.t 24))⟩, ⟨(some 7), none, (.mv (.t 25))⟩]) (.seq (.reg [⟨(some 26), none, (.mv (.t 8))⟩, 
  ⟨(some 27), none, (.mv (.t 6))⟩, ⟨(some 28), none, (.bld [(.int .u64 0), (.int .u64 0)] [(0, (1, (.t 26))), (1, (1, (.t 27)))])⟩, ⟨(some 29), none, (.mv (.t 7))⟩, 
  ⟨(some 30), none, (.eq true .i (.t 29) (.k (.int .u64 0)))⟩, ⟨none, none, (.st (some 2) (.t 4) (.t 28))⟩, ⟨(some 5), none, (.mv (.t 30))⟩]) .ret))))⟩
theorem c_addr_Add : compF Try.prog ⟨some 71, some 43⟩ Try.f40 = some r_addr_Add := by kernel_rfl
/-- tenancy/span.one -/
def r_span_one : RF :=
  ⟨2, [(.cell (some 2) 0)], (.seq (.reg [⟨(some 0), none, (.new [(.int .u64 0), (.int .u64 0)])⟩]) (.seq 
  (.reg [⟨(some 1), none, (.bld [(.int .u64 0), (.int .u64 0)] [(1, (1, (.k (.int .u64 1))))])⟩, ⟨none, none, (.st (some 2) (.t 0) (.t 1))⟩]) .ret))⟩
theorem c_span_one : compF Try.prog ⟨some 71, some 43⟩ Try.f41 = some r_span_one := by kernel_rfl
/-- tenancy/span.Drop -/
def r_span_Drop : RF :=
  ⟨83, [(.tmp 4), (.tmp 5)], (.seq (.reg [⟨(some 3), none, (.box (some 4) (.t 1))⟩, ⟨(some 4), none, (.mv (.k .nils))⟩, ⟨(some 5), none, (.mv (.k (.int .i64 0)))⟩]) (.seq (.seq 
  (.reg [⟨(some 13), none, (.mv (.t 0))⟩, ⟨(some 14), none, (.call f_span_Sound [(.t 13)])⟩, ⟨(some 15), none, (.un .not (.t 14))⟩, ⟨(some 16), none, (.mv (.t 15))⟩, 
  ⟨(some 17), (some (16, false)), (.ld (some 4) (.t 3))⟩, ⟨(some 18), (some (16, false)), (.call f_span_isRange [(.t 17)])⟩, ⟨(some 19), (some (16, false)), (.un .not (.t 18))⟩, 
  ⟨(some 20), none, (.pick (.t 16) (.k (.bool true)) (.t 19))⟩]) (.cond (.t 20) (.seq (.reg [⟨(some 4), none, (.mv (.k .nils))⟩, 
  ⟨(some 5), none, (.mv (.k (.int .i64 1)))⟩]) .ret) .skip)) (.seq (.reg [⟨(some 6), none, (.mv (.k .nils))⟩]) (.seq (.seq (.reg [⟨(some 21), none, (.mv (.t 0))⟩, 
  ⟨(some 22), none, (.lenl (.t 21))⟩, ⟨(some 23), none, (.mv (.k (.int .i64 0)))⟩]) (.block 0 (.loop (.seq (.reg [⟨(some 24), none, (.bin .lss (.t 23) (.t 22))⟩]) (.seq 
  (.cond (.t 24) .skip (.exit 0)) (.seq (.block 1 (.seq (.reg [⟨(some 25), none, (.ixa 4 (.t 21) (.t 23))⟩, ⟨(some 26), none, (.ld (some 4) (.t 25))⟩, 
  ⟨(some 8), none, (.new [(.int .u64 0), (.int .u64 0), (.int .u64 0), (.int .u64 0)])⟩, ⟨none, none, (.st (some 4) (.t 8) (.t 26))⟩]) (.seq (.seq 
  (.reg [⟨(some 27), none, (.off 2 (.t 8))⟩, ⟨(some 28), none, (.ld (some 2) (.t 27))⟩, ⟨(some 29), none, (.off 0 (.t 3))⟩, ⟨(some 30), none, (.ld (some 2) (.t 29))⟩, 
  ⟨(some 31), none, (.call f_span_below [(.t 28), (.t 30)])⟩, ⟨(some 32), none, (.mv (.t 31))⟩, ⟨(some 33), (some (32, false)), (.off 2 (.t 3))⟩, 
  ⟨(some 34), (some (32, false)), (.ld (some 2) (.t 33))⟩, ⟨(some 35), (some (32, false)), (.off 0 (.t 8))⟩, ⟨(some 36), (some (32, false)), (.ld (some 2) (.t 35))⟩, 
  ⟨(some 37), (some (32, false)), (.call f_span_below [(.t 34), (.t 36)])⟩, ⟨(some 38), none, (.pick (.t 32) (.k (.bool true)) (.t 37))⟩]) (.cond (.t 38) (.seq 
  (.reg [⟨(some 39), none, (.mv (.t 6))⟩, ⟨(some 40), none, (.ld (some 4) (.t 8))⟩, 
  ⟨(some 41), none, (.bsl 4 1 [(.int .u64 0), (.int .u64 0), (.int .u64 0), (.int .u64 0)] [(0, (4, (.t 40)))])⟩, ⟨(some 42), none, (.app 4 32 (.t 39) (.t 41))⟩, 
  ⟨(some 6), none, (.mv (.t 42))⟩]) (.exit 1)) .skip)) (.seq (.seq (.reg [⟨(some 43), none, (.off 0 (.t 8))⟩, ⟨(some 44), none, (.ld (some 2) (.t 43))⟩, 
  ⟨(some 45), none, (.off 0 (.t 3))⟩, ⟨(some 46), none, (.ld (some 2) (.t 45))⟩, ⟨(some 47), none, (.call f_span_below [(.t 44), (.t 46)])⟩]) (.cond (.t 47) (.seq 
  (.drw 1 [⟨⟨(some 49), none, (.off 0 (.t 3))⟩, .pure, [], []⟩, ⟨⟨(some 50), none, (.ld (some 2) (.t 49))⟩, .ld, [], []⟩, ⟨⟨(some 51), none, (.call f_span_one [])⟩, .eff, [1], [0]⟩, 
  ⟨⟨(some 52), none, (.call f_addr_Sub [(.t 50), (.t 51)])⟩, .eff, [], [0]⟩, ⟨⟨(some 48), none, (.mv (.t 52))⟩, .pure, [], []⟩, ⟨⟨(some 53), none, (.ext 0 (.t 48))⟩, .pure, [], []⟩, 
  ⟨⟨(some 54), none, (.ext 1 (.t 48))⟩, .pure, [], []⟩, ⟨⟨(some 9), none, (.new [(.int .u64 0), (.int .u64 0)])⟩, (.new 0), [1], []⟩, 
  ⟨⟨none, none, (.st (some 2) (.t 9) (.t 53))⟩, .eff, [], []⟩, ⟨⟨(some 10), none, (.mv (.t 54))⟩, .pure, [], []⟩]) (.reg [⟨(some 55), none, (.mv (.t 6))⟩, 
  ⟨(some 56), none, (.off 0 (.t 8))⟩, ⟨(some 57), none, (.ld (some 2) (.t 56))⟩, ⟨(some 58), none, (.ld (some 2) (.t 9))⟩, 
  ⟨(some 59), none, (.bld [(.int .u64 0), (.int .u64 0), (.int .u64 0), (.int .u64 0)] [(0, (2, (.t 57))), (2, (2, (.t 58)))])⟩, 
  ⟨(some 60), none, (.bsl 4 1 [(.int .u64 0), (.int .u64 0), (.int .u64 0), (.int .u64 0)] [(0, (4, (.t 59)))])⟩, ⟨(some 61), none, (.app 4 32 (.t 55) (.t 60))⟩, 
  ⟨(some 6), none, (.mv (.t 61))⟩])) .skip)) (.seq (.reg [⟨(some 62), none, (.off 2 (.t 3))⟩, ⟨(some 63), none, (.ld (some 2) (.t 62))⟩, ⟨(some 64), none, (.off 2 (.t 8))⟩, 
  ⟨(some 65), none, (.ld (some 2) (.t 64))⟩, ⟨(some 66), none, (.call f_span_below [(.t 63), (.t 65)])⟩]) (.cond (.t 66) (.seq 
  (.drw 1 [⟨⟨(some 68), none, (.off 2 (.t 3))⟩, .pure, [], []⟩, ⟨⟨(some 69), none, (.ld (some 2) (.t 68))⟩, .ld, [], []⟩, ⟨⟨(some 70), none, (.call f_span_one [])⟩, .eff, [1], [0]⟩, 
  ⟨⟨(some 71), none, (.call f_addr_Add [(.t 69), (.t 70)])⟩, .eff, [], [0]⟩, ⟨⟨(some 67), none, (.mv (.t 71))⟩, .pure, [], []⟩, ⟨⟨(some 72), none, (.ext 0 (.t 67))⟩, .pure, [], []⟩, 
  ⟨⟨(some 73), none, (.ext 1 (.t 67))⟩, .pure, [], []⟩, ⟨⟨(some 11), none, (.new [(.int .u64 0), (.int .u64 0)])⟩, (.new 0), [1], []⟩, 
  ⟨⟨none, none, (.st (some 2) (.t 11) (.t 72))⟩, .eff, [], []⟩, ⟨⟨(some 12), none, (.mv (.t 73))⟩, .pure, [], []⟩]) (.reg [⟨(some 74), none, (.mv (.t 6))⟩, 
  ⟨(some 75), none, (.ld (some 2) (.t 11))⟩, ⟨(some 76), none, (.off 2 (.t 8))⟩, ⟨(some 77), none, (.ld (some 2) (.t 76))⟩, 
  ⟨(some 78), none, (.bld [(.int .u64 0), (.int .u64 0), (.int .u64 0), (.int .u64 0)] [(0, (2, (.t 75))), (2, (2, (.t 77)))])⟩, 
  ⟨(some 79), none, (.bsl 4 1 [(.int .u64 0), (.int .u64 0), (.int .u64 0), (.int .u64 0)] [(0, (4, (.t 78)))])⟩, ⟨(some 80), none, (.app 4 32 (.t 74) (.t 79))⟩, 
  ⟨(some 6), none, (.mv (.t 80))⟩])) .skip)))))) (.reg [⟨(some 81), none, (.bin .add (.t 23) (.k (.int .i64 1)))⟩, ⟨(some 23), none, (.mv (.t 81))⟩]))))))) (.seq 
  (.reg [⟨(some 82), none, (.mv (.t 6))⟩, ⟨(some 4), none, (.mv (.t 82))⟩, ⟨(some 5), none, (.mv (.k (.int .i64 0)))⟩]) .ret)))))⟩
theorem c_span_Drop : compF Try.prog ⟨some 71, some 43⟩ Try.f42 = some r_span_Drop := by kernel_rfl
/-- tenancy/span.isRange -/
def r_span_isRange : RF :=
  ⟨9, [(.tmp 2)], (.seq (.reg [⟨(some 1), none, (.box (some 4) (.t 0))⟩, ⟨(some 2), none, (.mv (.k (.bool false)))⟩]) (.seq (.reg [⟨(some 3), none, (.off 2 (.t 1))⟩, 
  ⟨(some 4), none, (.ld (some 2) (.t 3))⟩, ⟨(some 5), none, (.off 0 (.t 1))⟩, ⟨(some 6), none, (.ld (some 2) (.t 5))⟩, ⟨(some 7), none, (.call f_span_below [(.t 4), (.t 6)])⟩, 
  ⟨(some 8), none, (.un .not (.t 7))⟩, ⟨(some 2), none, (.mv (.t 8))⟩]) .ret))⟩
theorem c_span_isRange : compF Try.prog ⟨some 71, some 43⟩ Try.f44 = some r_span_isRange := by kernel_rfl
/-- tenancy/span.apart -/
def r_span_apart : RF :=
  ⟨22, [(.tmp 4)], (.seq (.reg [⟨(some 2), none, (.box (some 4) (.t 0))⟩, ⟨(some 3), none, (.box (some 4) (.t 1))⟩, ⟨(some 4), none, (.mv (.k (.bool false)))⟩]) (.seq 
  (.drw 1 [⟨⟨(some 8), none, (.off 2 (.t 2))⟩, .pure, [], []⟩, ⟨⟨(some 9), none, (.ld (some 2) (.t 8))⟩, .ld, [], []⟩, ⟨⟨(some 10), none, (.call f_span_one [])⟩, .eff, [1], [0]⟩, 
  ⟨⟨(some 11), none, (.call f_addr_Add [(.t 9), (.t 10)])⟩, .eff, [], [0]⟩, ⟨⟨(some 7), none, (.mv (.t 11))⟩, .pure, [], []⟩, ⟨⟨(some 12), none, (.ext 0 (.t 7))⟩, .pure, [], []⟩, 
  ⟨⟨(some 13), none, (.ext 1 (.t 7))⟩, .pure, [], []⟩, ⟨⟨(some 5), none, (.new [(.int .u64 0), (.int .u64 0)])⟩, (.new 0), [1], []⟩, 
  ⟨⟨none, none, (.st (some 2) (.t 5) (.t 12))⟩, .eff, [], []⟩, ⟨⟨(some 6), none, (.mv (.t 13))⟩, .pure, [], []⟩]) (.seq (.reg [⟨(some 14), none, (.mv (.t 6))⟩, 
  ⟨(some 15), none, (.un .not (.t 14))⟩, ⟨(some 16), none, (.mv (.t 15))⟩, ⟨(some 17), (some (16, true)), (.ld (some 2) (.t 5))⟩, ⟨(some 18), (some (16, true)), (.off 0 (.t 3))⟩, 
  ⟨(some 19), (some (16, true)), (.ld (some 2) (.t 18))⟩, ⟨(some 20), (some (16, true)), (.call f_span_below [(.t 17), (.t 19)])⟩, 
  ⟨(some 21), none, (.pick (.t 16) (.t 20) (.k (.bool false)))⟩, ⟨(some 4), none, (.mv (.t 21))⟩]) .ret)))⟩
theorem c_span_apart : compF Try.prog ⟨some 71, some 43⟩ Try.f45 = some r_span_apart := by kernel_rfl
/-- cmp.Or[int] -/
def r_cmp_Or_int : RF :=
  ⟨18, [(.tmp 2)], (.seq (.reg [⟨(some 2), none, (.mv (.k (.int .i64 0)))⟩]) (.seq (.reg [⟨(some 3), none, (.mv (.k (.int .i64 0)))⟩]) (.seq (.seq 
  (.reg [⟨(some 6), none, (.mv (.t 0))⟩, ⟨(some 7), none, (.lenl (.t 6))⟩, ⟨(some 8), none, (.mv (.k (.int .i64 0)))⟩]) (.block 0 (.loop (.seq 
  (.reg [⟨(some 9), none, (.bin .lss (.t 8) (.t 7))⟩]) (.seq (.cond (.t 9) .skip (.exit 0)) (.seq (.block 1 (.seq (.reg [⟨(some 10), none, (.ixa 1 (.t 6) (.t 8))⟩, 
  ⟨(some 11), none, (.ld none (.t 10))⟩, ⟨(some 5), none, (.mv (.t 11))⟩]) (.seq (.reg [⟨(some 12), none, (.mv (.t 5))⟩, ⟨(some 13), none, (.mv (.t 3))⟩, 
  ⟨(some 14), none, (.eq true .i (.t 12) (.t 13))⟩]) (.cond (.t 14) (.seq (.reg [⟨(some 15), none, (.mv (.t 5))⟩, ⟨(some 2), none, (.mv (.t 15))⟩]) .ret) .skip)))) 
  (.reg [⟨(some 16), none, (.bin .add (.t 8) (.k (.int .i64 1)))⟩, ⟨(some 8), none, (.mv (.t 16))⟩]))))))) (.seq (.reg [⟨(some 17), none, (.mv (.t 3))⟩, 
  ⟨(some 2), none, (.mv (.t 17))⟩]) .ret))))⟩
theorem c_cmp_Or_int : compF Try.prog ⟨some 71, some 43⟩ Try.f46 = some r_cmp_Or_int := by kernel_rfl
/-- cmp.Compare[uint64] -/
def r_cmp_Compare_uint64 : RF :=
  ⟨20, [(.tmp 4)], (.seq (.reg [⟨(some 4), none, (.mv (.k (.int .i64 0)))⟩]) (.seq (.reg [⟨(some 7), none, (.mv (.t 0))⟩, ⟨(some 8), none, (.call f_cmp_isNaN_uint64 [(.t 7)])⟩, 
  ⟨(some 5), none, (.mv (.t 8))⟩]) (.seq (.reg [⟨(some 9), none, (.mv (.t 1))⟩, ⟨(some 10), none, (.call f_cmp_isNaN_uint64 [(.t 9)])⟩, ⟨(some 6), none, (.mv (.t 10))⟩]) (.seq (.seq 
  (.reg [⟨(some 11), none, (.mv (.t 5))⟩]) (.cond (.t 11) (.seq (.seq (.reg [⟨(some 12), none, (.mv (.t 6))⟩]) (.cond (.t 12) (.seq 
  (.reg [⟨(some 4), none, (.mv (.k (.int .i64 0)))⟩]) .ret) .skip)) (.seq (.reg [⟨(some 4), none, (.mv (.k (.int .i64 (-1))))⟩]) .ret)) .skip)) (.seq (.seq 
  (.reg [⟨(some 13), none, (.mv (.t 6))⟩]) (.cond (.t 13) (.seq (.reg [⟨(some 4), none, (.mv (.k (.int .i64 1)))⟩]) .ret) .skip)) (.seq (.seq (.reg [⟨(some 14), none, (.mv (.t 0))⟩, 
  ⟨(some 15), none, (.mv (.t 1))⟩, ⟨(some 16), none, (.bin .lss (.t 14) (.t 15))⟩]) (.cond (.t 16) (.seq (.reg [⟨(some 4), none, (.mv (.k (.int .i64 (-1))))⟩]) .ret) .skip)) (.seq 
  (.seq (.reg [⟨(some 17), none, (.mv (.t 0))⟩, ⟨(some 18), none, (.mv (.t 1))⟩, ⟨(some 19), none, (.bin .gtr (.t 17) (.t 18))⟩]) (.cond (.t 19) (.seq 
  (.reg [⟨(some 4), none, (.mv (.k (.int .i64 1)))⟩]) .ret) .skip)) (.seq (.reg [⟨(some 4), none, (.mv (.k (.int .i64 0)))⟩]) .ret))))))))⟩
theorem c_cmp_Compare_uint64 : compF Try.prog ⟨some 71, some 43⟩ Try.f47 = some r_cmp_Compare_uint64 := by kernel_rfl
/-- slices.ContainsFunc[[]tenancy/api.Range,tenancy/api.Range] -/
def r_slices_ContainsFunc_Range : RF :=
  ⟨9, [(.tmp 4)], (.seq (.reg [⟨(some 4), none, (.mv (.k (.bool false)))⟩]) (.seq (.reg [⟨(some 5), none, (.mv (.t 0))⟩, ⟨(some 6), none, (.mv (.t 1))⟩, 
  ⟨(some 7), none, (.call f_slices_IndexFunc_Range [(.t 5), (.t 6)])⟩, ⟨(some 8), none, (.bin .geq (.t 7) (.k (.int .i64 0)))⟩, ⟨(some 4), none, (.mv (.t 8))⟩]) .ret))⟩
theorem c_slices_ContainsFunc_Range : compF Try.prog ⟨some 71, some 43⟩ Try.f48 = some r_slices_ContainsFunc_Range := by kernel_rfl
/-- tenancy/span.Has$1 -/
def r_span_Has_1 : RF :=
  ⟨16, [(.tmp 3)], (.seq (.reg [⟨(some 2), none, (.box (some 4) (.t 0))⟩, ⟨(some 3), none, (.mv (.k (.bool false)))⟩]) (.seq (.reg [⟨(some 4), none, (.ld (some 2) (.t 1))⟩, 
  ⟨(some 5), none, (.off 0 (.t 2))⟩, ⟨(some 6), none, (.ld (some 2) (.t 5))⟩, ⟨(some 7), none, (.call f_span_below [(.t 4), (.t 6)])⟩, ⟨(some 8), none, (.un .not (.t 7))⟩, 
  ⟨(some 9), none, (.mv (.t 8))⟩, ⟨(some 10), (some (9, true)), (.off 2 (.t 2))⟩, ⟨(some 11), (some (9, true)), (.ld (some 2) (.t 10))⟩, 
  ⟨(some 12), (some (9, true)), (.ld (some 2) (.t 1))⟩, ⟨(some 13), (some (9, true)), (.call f_span_below [(.t 11), (.t 12)])⟩, ⟨(some 14), (some (9, true)), (.un .not (.t 13))⟩, 
  ⟨(some 15), none, (.pick (.t 9) (.t 14) (.k (.bool false)))⟩, ⟨(some 3), none, (.mv (.t 15))⟩]) .ret))⟩
theorem c_span_Has_1 : compF Try.prog ⟨some 71, some 43⟩ Try.f49 = some r_span_Has_1 := by kernel_rfl
/-- tenancy/span.below -/
def r_span_below : RF :=
  ⟨9, [(.tmp 4)], (.seq (.reg [⟨(some 2), none, (.box (some 2) (.t 0))⟩, ⟨(some 3), none, (.box (some 2) (.t 1))⟩, ⟨(some 4), none, (.mv (.k (.bool false)))⟩]) (.seq 
  (.reg [⟨(some 5), none, (.ld (some 2) (.t 2))⟩, ⟨(some 6), none, (.ld (some 2) (.t 3))⟩, ⟨(some 7), none, (.call f_addr_Cmp [(.t 5), (.t 6)])⟩, 
  ⟨(some 8), none, (.bin .lss (.t 7) (.k (.int .i64 0)))⟩, ⟨(some 4), none, (.mv (.t 8))⟩]) .ret))⟩
theorem c_span_below : compF Try.prog ⟨some 71, some 43⟩ Try.f50 = some r_span_below := by kernel_rfl
/-- slices.Concat[[]tenancy/api.Range,tenancy/api.Range] -/
def r_slices_Concat_Range : RF :=
  ⟨36, [(.tmp 2)], (.seq (.reg [⟨(some 2), none, (.mv (.k .nils))⟩]) (.seq (.reg [⟨(some 3), none, (.mv (.k (.int .i64 0)))⟩]) (.seq (.seq (.reg [⟨(some 9), none, (.mv (.t 0))⟩, 
  ⟨(some 10), none, (.lenl (.t 9))⟩, ⟨(some 11), none, (.mv (.k (.int .i64 0)))⟩]) (.block 0 (.loop (.seq (.reg [⟨(some 12), none, (.bin .lss (.t 11) (.t 10))⟩]) (.seq 
  (.cond (.t 12) .skip (.exit 0)) (.seq (.block 1 (.seq (.reg [⟨(some 13), none, (.ixa 1 (.t 9) (.t 11))⟩, ⟨(some 14), none, (.ld none (.t 13))⟩, ⟨(some 5), none, (.mv (.t 14))⟩]) 
  (.seq (.reg [⟨(some 15), none, (.mv (.t 3))⟩, ⟨(some 16), none, (.mv (.t 5))⟩, ⟨(some 17), none, (.lenl (.t 16))⟩, ⟨(some 18), none, (.bin .add (.t 15) (.t 17))⟩, 
  ⟨(some 3), none, (.mv (.t 18))⟩]) (.seq (.reg [⟨(some 19), none, (.mv (.t 3))⟩, ⟨(some 20), none, (.bin .lss (.t 19) (.k (.int .i64 0)))⟩]) (.cond (.t 20) 
  (.reg [⟨(some 21), none, (.mki 9 (.k (.str (bts [108, 101, 110, 32, 111, 117, 116, 32, 111, 102, 32, 114, 97, 110, 103, 101]))))⟩, ⟨none, none, .fail⟩]) .skip))))) 
  (.reg [⟨(some 22), none, (.bin .add (.t 11) (.k (.int .i64 1)))⟩, ⟨(some 11), none, (.mv (.t 22))⟩]))))))) (.seq (.reg [⟨(some 23), none, (.mv (.t 3))⟩, 
  ⟨(some 24), none, (.call f_slices_Grow_Range [(.k .nils), (.t 23)])⟩, ⟨(some 6), none, (.mv (.t 24))⟩]) (.seq (.seq (.reg [⟨(some 25), none, (.mv (.t 0))⟩, 
  ⟨(some 26), none, (.lenl (.t 25))⟩, ⟨(some 27), none, (.mv (.k (.int .i64 0)))⟩]) (.block 2 (.loop (.seq (.reg [⟨(some 28), none, (.bin .lss (.t 27) (.t 26))⟩]) (.seq 
  (.cond (.t 28) .skip (.exit 2)) (.seq (.block 3 (.seq (.reg [⟨(some 29), none, (.ixa 1 (.t 25) (.t 27))⟩, ⟨(some 30), none, (.ld none (.t 29))⟩, ⟨(some 8), none, (.mv (.t 30))⟩]) 
  (.reg [⟨(some 31), none, (.mv (.t 6))⟩, ⟨(some 32), none, (.mv (.t 8))⟩, ⟨(some 33), none, (.app 4 32 (.t 31) (.t 32))⟩, ⟨(some 6), none, (.mv (.t 33))⟩]))) 
  (.reg [⟨(some 34), none, (.bin .add (.t 27) (.k (.int .i64 1)))⟩, ⟨(some 27), none, (.mv (.t 34))⟩]))))))) (.seq (.reg [⟨(some 35), none, (.mv (.t 6))⟩, 
  ⟨(some 2), none, (.mv (.t 35))⟩]) .ret))))))⟩
theorem c_slices_Concat_Range : compF Try.prog ⟨some 71, some 43⟩ Try.f51 = some r_slices_Concat_Range := by kernel_rfl
/-- tenancy/tenancyref03.le -/
def r_r03_le : RF :=
  ⟨9, [(.tmp 4)], (.seq (.reg [⟨(some 2), none, (.box (some 2) (.t 0))⟩, ⟨(some 3), none, (.box (some 2) (.t 1))⟩, ⟨(some 4), none, (.mv (.k (.bool false)))⟩]) (.seq 
  (.reg [⟨(some 5), none, (.ld (some 2) (.t 2))⟩, ⟨(some 6), none, (.ld (some 2) (.t 3))⟩, ⟨(some 7), none, (.call f_r01_Cmp [(.t 5), (.t 6)])⟩, 
  ⟨(some 8), none, (.bin .leq (.t 7) (.k (.int .i64 0)))⟩, ⟨(some 4), none, (.mv (.t 8))⟩]) .ret))⟩
theorem c_r03_le : compF Try.prog ⟨some 71, some 43⟩ Try.f52 = some r_r03_le := by kernel_rfl
/-- tenancy/tenancyref03.made -/
def r_r03_made : RF :=
  ⟨97, [(.tmp 4)], (.seq (.reg [⟨(some 4), none, (.mv (.k .nils))⟩]) (.seq (.reg [⟨(some 13), none, (.bsl 4 0 [(.int .u64 0), (.int .u64 0), (.int .u64 0), (.int .u64 0)] [])⟩, 
  ⟨(some 5), none, (.mv (.t 13))⟩]) (.seq (.reg [⟨(some 14), none, (.mv (.t 5))⟩, ⟨(some 15), none, (.mv (.t 0))⟩, ⟨(some 16), none, (.app 4 32 (.t 14) (.t 15))⟩, 
  ⟨(some 5), none, (.mv (.t 16))⟩]) (.seq (.reg [⟨(some 17), none, (.mv (.t 5))⟩, ⟨(some 18), none, (.mv (.t 1))⟩, ⟨(some 19), none, (.app 4 32 (.t 17) (.t 18))⟩, 
  ⟨(some 5), none, (.mv (.t 19))⟩]) (.seq (.reg [⟨(some 20), none, (.mv (.t 5))⟩, ⟨(some 21), none, (.call f_r03_edges [(.t 20)])⟩, ⟨(some 6), none, (.mv (.t 21))⟩]) (.seq 
  (.reg [⟨(some 22), none, (.bsl 4 0 [(.int .u64 0), (.int .u64 0), (.int .u64 0), (.int .u64 0)] [])⟩, ⟨(some 7), none, (.mv (.t 22))⟩]) (.seq (.seq 
  (.reg [⟨(some 8), none, (.mv (.k (.int .i64 0)))⟩]) (.block 0 (.loop (.seq (.seq (.reg [⟨(some 23), none, (.mv (.t 8))⟩, ⟨(some 24), none, (.mv (.t 6))⟩, 
  ⟨(some 25), none, (.lenl (.t 24))⟩, ⟨(some 26), none, (.bin .lss (.t 23) (.t 25))⟩]) (.cond (.t 26) .skip (.exit 0))) (.seq (.block 1 (.seq (.seq 
  (.reg [⟨(some 29), none, (.mv (.t 0))⟩, ⟨(some 30), none, (.mv (.t 6))⟩, ⟨(some 31), none, (.mv (.t 8))⟩, ⟨(some 32), none, (.ixa 2 (.t 30) (.t 31))⟩, 
  ⟨(some 33), none, (.ld (some 2) (.t 32))⟩, ⟨(some 34), none, (.call f_r03_in [(.t 29), (.t 33)])⟩, ⟨(some 35), none, (.un .not (.t 34))⟩, ⟨(some 36), none, (.mv (.t 35))⟩, 
  ⟨(some 37), (some (36, false)), (.mv (.t 1))⟩, ⟨(some 38), (some (36, false)), (.mv (.t 6))⟩, ⟨(some 39), (some (36, false)), (.mv (.t 8))⟩, 
  ⟨(some 40), (some (36, false)), (.ixa 2 (.t 38) (.t 39))⟩, ⟨(some 41), (some (36, false)), (.ld (some 2) (.t 40))⟩, 
  ⟨(some 42), (some (36, false)), (.call f_r03_in [(.t 37), (.t 41)])⟩, ⟨(some 43), none, (.pick (.t 36) (.k (.bool true)) (.t 42))⟩]) (.cond (.t 43) (.exit 1) .skip)) (.seq 
  (.reg [⟨(some 44), none, (.bld [(.int .u64 0), (.int .u64 0)] [(0, (1, (.k (.int .u64 18446744073709551615)))), (1, (1, (.k (.int .u64 18446744073709551615))))])⟩, 
  ⟨(some 9), none, (.new [(.int .u64 0), (.int .u64 0)])⟩, ⟨none, none, (.st (some 2) (.t 9) (.t 44))⟩]) (.seq (.seq (.reg [⟨(some 45), none, (.mv (.t 8))⟩, 
  ⟨(some 46), none, (.bin .add (.t 45) (.k (.int .i64 1)))⟩, ⟨(some 47), none, (.mv (.t 6))⟩, ⟨(some 48), none, (.lenl (.t 47))⟩, ⟨(some 49), none, (.bin .lss (.t 46) (.t 48))⟩]) 
  (.cond (.t 49) (.reg [⟨(some 51), none, (.mv (.t 6))⟩, ⟨(some 52), none, (.mv (.t 8))⟩, ⟨(some 53), none, (.bin .add (.t 52) (.k (.int .i64 1)))⟩, 
  ⟨(some 54), none, (.ixa 2 (.t 51) (.t 53))⟩, ⟨(some 55), none, (.ld (some 2) (.t 54))⟩, ⟨(some 56), none, (.call f_r03_ahead [(.t 55)])⟩, ⟨(some 50), none, (.mv (.t 56))⟩, 
  ⟨(some 57), none, (.ext 0 (.t 50))⟩, ⟨(some 58), none, (.ext 1 (.t 50))⟩, ⟨none, none, (.st (some 2) (.t 9) (.t 57))⟩]) .skip)) (.seq (.reg [⟨(some 59), none, (.mv (.t 7))⟩, 
  ⟨(some 60), none, (.lenl (.t 59))⟩, ⟨(some 61), none, (.bin .sub (.t 60) (.k (.int .i64 1)))⟩, ⟨(some 10), none, (.mv (.t 61))⟩]) (.seq (.seq 
  (.reg [⟨(some 62), none, (.mv (.t 10))⟩, ⟨(some 63), none, (.bin .geq (.t 62) (.k (.int .i64 0)))⟩]) (.cond (.t 63) (.seq (.reg [⟨(some 65), none, (.mv (.t 7))⟩, 
  ⟨(some 66), none, (.mv (.t 10))⟩, ⟨(some 67), none, (.ixa 4 (.t 65) (.t 66))⟩, ⟨(some 68), none, (.off 2 (.t 67))⟩, ⟨(some 69), none, (.ld (some 2) (.t 68))⟩, 
  ⟨(some 70), none, (.call f_r03_next [(.t 69)])⟩, ⟨(some 64), none, (.mv (.t 70))⟩, ⟨(some 71), none, (.ext 0 (.t 64))⟩, ⟨(some 72), none, (.ext 1 (.t 64))⟩, 
  ⟨(some 11), none, (.new [(.int .u64 0), (.int .u64 0)])⟩, ⟨none, none, (.st (some 2) (.t 11) (.t 71))⟩, ⟨(some 12), none, (.mv (.t 72))⟩]) (.seq 
  (.drw 0 [⟨⟨(some 73), none, (.mv (.t 12))⟩, .pure, [], []⟩, ⟨⟨(some 74), none, (.mv (.t 73))⟩, .pure, [], []⟩, 
  ⟨⟨(some 75), (some (74, true)), (.ld (some 2) (.t 11))⟩, .ld, [], []⟩, ⟨⟨(some 76), (some (74, true)), (.mv (.t 6))⟩, .pure, [2], []⟩, 
  ⟨⟨(some 77), (some (74, true)), (.mv (.t 8))⟩, .pure, [2], []⟩, ⟨⟨(some 78), (some (74, true)), (.ixa 2 (.t 76) (.t 77))⟩, .pure, [2], []⟩, 
  ⟨⟨(some 79), (some (74, true)), (.ld (some 2) (.t 78))⟩, .ld, [], []⟩, 
  ⟨⟨(some 80), (some (74, true)), (.eq false (.st (.one 0 .i (.one 1 .i .nil))) (.t 75) (.t 79))⟩, .pure, [], []⟩, 
  ⟨⟨(some 81), none, (.pick (.t 74) (.t 80) (.k (.bool false)))⟩, .pure, [], []⟩]) (.cond (.t 81) (.seq (.reg [⟨(some 82), none, (.mv (.t 7))⟩, ⟨(some 83), none, (.mv (.t 10))⟩, 
  ⟨(some 84), none, (.ld (some 2) (.t 9))⟩, ⟨(some 85), none, (.ixa 4 (.t 82) (.t 83))⟩, ⟨(some 86), none, (.off 2 (.t 85))⟩, 
  ⟨none, none, (.st (some 2) (.t 86) (.t 84))⟩]) (.exit 1)) .skip))) .skip)) (.drw 1 [⟨⟨(some 87), none, (.mv (.t 7))⟩, .pure, [], []⟩, 
  ⟨⟨(some 88), none, (.mv (.t 6))⟩, .pure, [], []⟩, ⟨⟨(some 89), none, (.mv (.t 8))⟩, .pure, [], []⟩, ⟨⟨(some 90), none, (.ixa 2 (.t 88) (.t 89))⟩, .pure, [], []⟩, 
  ⟨⟨(some 91), none, (.ld (some 2) (.t 90))⟩, .ld, [], []⟩, ⟨⟨(some 92), none, (.ld (some 2) (.t 9))⟩, .ld, [], []⟩, 
  ⟨⟨(some 93), none, (.bld [(.int .u64 0), (.int .u64 0), (.int .u64 0), (.int .u64 0)] [(0, (2, (.t 91))), (2, (2, (.t 92)))])⟩, .pure, [], []⟩, 
  ⟨⟨(some 94), none, (.bsl 4 1 [(.int .u64 0), (.int .u64 0), (.int .u64 0), (.int .u64 0)] [(0, (4, (.t 93)))])⟩, (.new 0), [], []⟩, 
  ⟨⟨(some 95), none, (.app 4 32 (.t 87) (.t 94))⟩, .eff, [], []⟩, ⟨⟨(some 7), none, (.mv (.t 95))⟩, .pure, [], []⟩]))))))) (.reg [⟨(some 27), none, (.mv (.t 8))⟩, 
  ⟨(some 28), none, (.bin .add (.t 27) (.k (.int .i64 1)))⟩, ⟨(some 8), none, (.mv (.t 28))⟩])))))) (.seq (.reg [⟨(some 96), none, (.mv (.t 7))⟩, 
  ⟨(some 4), none, (.mv (.t 96))⟩]) .ret))))))))⟩
theorem c_r03_made : compF Try.prog ⟨some 71, some 43⟩ Try.f53 = some r_r03_made := by kernel_rfl
/-- tenancy/tenancyref03.Drop -/
def r_r03_Drop : RF :=
  ⟨21, [(.tmp 4), (.tmp 5)], (.seq (.reg [⟨(some 3), none, (.box (some 4) (.t 1))⟩, ⟨(some 4), none, (.mv (.k .nils))⟩, ⟨(some 5), none, (.mv (.k (.int .i64 0)))⟩]) (.seq (.seq 
  (.reg [⟨(some 6), none, (.mv (.t 0))⟩, ⟨(some 7), none, (.call f_r03_Sound [(.t 6)])⟩, ⟨(some 8), none, (.un .not (.t 7))⟩, ⟨(some 9), none, (.mv (.t 8))⟩, 
  ⟨(some 10), (some (9, false)), (.off 0 (.t 3))⟩, ⟨(some 11), (some (9, false)), (.ld (some 2) (.t 10))⟩, ⟨(some 12), (some (9, false)), (.off 2 (.t 3))⟩, 
  ⟨(some 13), (some (9, false)), (.ld (some 2) (.t 12))⟩, ⟨(some 14), (some (9, false)), (.call f_r03_le [(.t 11), (.t 13)])⟩, ⟨(some 15), (some (9, false)), (.un .not (.t 14))⟩, 
  ⟨(some 16), none, (.pick (.t 9) (.k (.bool true)) (.t 15))⟩]) (.cond (.t 16) (.seq (.reg [⟨(some 4), none, (.mv (.k .nils))⟩, 
  ⟨(some 5), none, (.mv (.k (.int .i64 1)))⟩]) .ret) .skip)) (.seq (.reg [⟨(some 17), none, (.mv (.t 0))⟩, ⟨(some 18), none, (.ld (some 4) (.t 3))⟩, 
  ⟨(some 19), none, (.bsl 4 1 [(.int .u64 0), (.int .u64 0), (.int .u64 0), (.int .u64 0)] [(0, (4, (.t 18)))])⟩, ⟨(some 20), none, (.call f_r03_made [(.t 17), (.t 19)])⟩, 
  ⟨(some 4), none, (.mv (.t 20))⟩, ⟨(some 5), none, (.mv (.k (.int .i64 0)))⟩]) .ret)))⟩
theorem c_r03_Drop : compF Try.prog ⟨some 71, some 43⟩ Try.f54 = some r_r03_Drop := by kernel_rfl
/-- tenancy/tenancyref12.one -/
def r_r12_one : RF :=
  ⟨6, [(.cell (some 4) 2)], (.seq (.reg [⟨(some 1), none, (.box (some 2) (.t 0))⟩, ⟨(some 2), none, (.new [(.int .u64 0), (.int .u64 0), (.int .u64 0), (.int .u64 0)])⟩]) (.seq 
  (.reg [⟨(some 3), none, (.ld (some 2) (.t 1))⟩, ⟨(some 4), none, (.ld (some 2) (.t 1))⟩, 
  ⟨(some 5), none, (.bld [(.int .u64 0), (.int .u64 0), (.int .u64 0), (.int .u64 0)] [(0, (2, (.t 3))), (2, (2, (.t 4)))])⟩, ⟨none, none, (.st (some 4) (.t 2) (.t 5))⟩]) .ret))⟩
theorem c_r12_one : compF Try.prog ⟨some 71, some 43⟩ Try.f55 = some r_r12_one := by kernel_rfl
/-- slices.Clone[[]tenancy/api.Range,tenancy/api.Range] -/
def r_slices_Clone_Range : RF :=
  ⟨8, [(.tmp 2)], (.seq (.reg [⟨(some 2), none, (.mv (.k .nils))⟩]) (.seq (.seq (.reg [⟨(some 3), none, (.mv (.t 0))⟩, ⟨(some 4), none, (.eq false .l (.t 3) (.k .nils))⟩]) 
  (.cond (.t 4) (.seq (.reg [⟨(some 2), none, (.mv (.k .nils))⟩]) .ret) .skip)) (.seq 
  (.reg [⟨(some 5), none, (.bsl 4 0 [(.int .u64 0), (.int .u64 0), (.int .u64 0), (.int .u64 0)] [])⟩, ⟨(some 6), none, (.mv (.t 0))⟩, ⟨(some 7), none, (.app 4 32 (.t 5) (.t 6))⟩, 
  ⟨(some 2), none, (.mv (.t 7))⟩]) .ret)))⟩
theorem c_slices_Clone_Range : compF Try.prog ⟨some 71, some 43⟩ Try.f56 = some r_slices_Clone_Range := by kernel_rfl
/-- tenancy/tenancyref03.next -/
def r_r03_next : RF :=
  ⟨15, [(.cell (some 2) 2), (.tmp 3)], (.seq (.reg [⟨(some 1), none, (.box (some 2) (.t 0))⟩, ⟨(some 2), none, (.new [(.int .u64 0), (.int .u64 0)])⟩, 
  ⟨(some 3), none, (.mv (.k (.bool false)))⟩]) (.seq (.reg [⟨(some 7), none, (.ld (some 2) (.t 1))⟩, 
  ⟨(some 8), none, (.bld [(.int .u64 0), (.int .u64 0)] [(1, (1, (.k (.int .u64 1))))])⟩, ⟨(some 9), none, (.call f_r01_Add [(.t 7), (.t 8)])⟩, ⟨(some 6), none, (.mv (.t 9))⟩, 
  ⟨(some 10), none, (.ext 0 (.t 6))⟩, ⟨(some 11), none, (.ext 1 (.t 6))⟩, ⟨(some 4), none, (.new [(.int .u64 0), (.int .u64 0)])⟩, ⟨none, none, (.st (some 2) (.t 4) (.t 10))⟩, 
  ⟨(some 5), none, (.mv (.t 11))⟩]) (.seq (.reg [⟨(some 12), none, (.ld (some 2) (.t 4))⟩, ⟨(some 13), none, (.mv (.t 5))⟩, ⟨(some 14), none, (.un .not (.t 13))⟩, 
  ⟨none, none, (.st (some 2) (.t 2) (.t 12))⟩, ⟨(some 3), none, (.mv (.t 14))⟩]) .ret)))⟩
theorem c_r03_next : compF Try.prog ⟨some 71, some 43⟩ Try.f57 = some r_r03_next := by kernel_rfl
/-- math/bits.Div64 -/
def r_bits_Div64 : RF :=
  ⟨135, [(.tmp 6), (.tmp 7)], (.seq (.reg [⟨(some 6), none, (.mv (.k (.int .u64 0)))⟩, ⟨(some 7), none, (.mv (.k (.int .u64 0)))⟩]) (.seq (.seq 
  (.reg [⟨(some 19), none, (.mv (.t 2))⟩, ⟨(some 20), none, (.eq false .i (.t 19) (.k (.int .u64 0)))⟩]) (.cond (.t 20) (.reg [⟨(some 21), none, .fail⟩, 
  ⟨none, none, .fail⟩]) .skip)) (.seq (.seq (.reg [⟨(some 22), none, (.mv (.t 2))⟩, ⟨(some 23), none, (.mv (.t 0))⟩, ⟨(some 24), none, (.bin .leq (.t 22) (.t 23))⟩]) (.cond (.t 24) 
  (.reg [⟨(some 25), none, .fail⟩, ⟨none, none, .fail⟩]) .skip)) (.seq (.seq (.reg [⟨(some 26), none, (.mv (.t 0))⟩, ⟨(some 27), none, (.eq false .i (.t 26) (.k (.int .u64 0)))⟩]) 
  (.cond (.t 27) (.seq (.drw 0 [⟨⟨(some 28), none, (.mv (.t 1))⟩, .pure, [], []⟩, ⟨⟨(some 29), none, (.mv (.t 2))⟩, .pure, [], []⟩, 
  ⟨⟨(some 30), none, (.bin .quo (.t 28) (.t 29))⟩, .pure, [], []⟩, ⟨⟨(some 31), none, (.mv (.t 1))⟩, .pure, [], []⟩, ⟨⟨(some 32), none, (.mv (.t 2))⟩, .pure, [], []⟩, 
  ⟨⟨(some 33), none, (.bin .rem (.t 31) (.t 32))⟩, .pure, [], []⟩, ⟨⟨(some 6), none, (.mv (.t 30))⟩, .pure, [], []⟩, ⟨⟨(some 7), none, (.mv (.t 33))⟩, .pure, [], []⟩]) .ret) .skip)) 
  (.seq (.reg [⟨(some 34), none, (.mv (.t 2))⟩, ⟨(some 35), none, (.call f_bits_LeadingZeros64 [(.t 34)])⟩, ⟨(some 36), none, (.cvi .u64 (.t 35))⟩, ⟨(some 8), none, (.mv (.t 36))⟩]) 
  (.seq (.reg [⟨(some 37), none, (.mv (.t 2))⟩, ⟨(some 38), none, (.mv (.t 8))⟩, ⟨(some 39), none, (.bin .shl (.t 37) (.t 38))⟩, ⟨(some 2), none, (.mv (.t 39))⟩]) (.seq 
  (.reg [⟨(some 40), none, (.mv (.t 2))⟩, ⟨(some 41), none, (.bin .shr (.t 40) (.k (.int .u64 32)))⟩, ⟨(some 9), none, (.mv (.t 41))⟩]) (.seq (.reg [⟨(some 42), none, (.mv (.t 2))⟩, 
  ⟨(some 43), none, (.bin .and (.t 42) (.k (.int .u64 4294967295)))⟩, ⟨(some 10), none, (.mv (.t 43))⟩]) (.seq (.reg [⟨(some 44), none, (.mv (.t 0))⟩, 
  ⟨(some 45), none, (.mv (.t 8))⟩, ⟨(some 46), none, (.bin .shl (.t 44) (.t 45))⟩, ⟨(some 47), none, (.mv (.t 1))⟩, ⟨(some 48), none, (.mv (.t 8))⟩, 
  ⟨(some 49), none, (.bin .sub (.k (.int .u64 64)) (.t 48))⟩, ⟨(some 50), none, (.bin .shr (.t 47) (.t 49))⟩, ⟨(some 51), none, (.bin .or (.t 46) (.t 50))⟩, 
  ⟨(some 11), none, (.mv (.t 51))⟩]) (.seq (.reg [⟨(some 52), none, (.mv (.t 1))⟩, ⟨(some 53), none, (.mv (.t 8))⟩, ⟨(some 54), none, (.bin .shl (.t 52) (.t 53))⟩, 
  ⟨(some 12), none, (.mv (.t 54))⟩]) (.seq (.reg [⟨(some 55), none, (.mv (.t 12))⟩, ⟨(some 56), none, (.bin .shr (.t 55) (.k (.int .u64 32)))⟩, ⟨(some 13), none, (.mv (.t 56))⟩]) 
  (.seq (.reg [⟨(some 57), none, (.mv (.t 12))⟩, ⟨(some 58), none, (.bin .and (.t 57) (.k (.int .u64 4294967295)))⟩, ⟨(some 14), none, (.mv (.t 58))⟩]) (.seq 
  (.reg [⟨(some 59), none, (.mv (.t 11))⟩, ⟨(some 60), none, (.mv (.t 9))⟩, ⟨(some 61), none, (.bin .quo (.t 59) (.t 60))⟩, ⟨(some 15), none, (.mv (.t 61))⟩]) (.seq 
  (.reg [⟨(some 62), none, (.mv (.t 11))⟩, ⟨(some 63), none, (.mv (.t 15))⟩, ⟨(some 64), none, (.mv (.t 9))⟩, ⟨(some 65), none, (.bin .mul (.t 63) (.t 64))⟩, 
  ⟨(some 66), none, (.bin .sub (.t 62) (.t 65))⟩, ⟨(some 16), none, (.mv (.t 66))⟩]) (.seq (.block 0 (.loop (.seq (.seq (.reg [⟨(some 67), none, (.mv (.t 15))⟩, 
  ⟨(some 68), none, (.bin .geq (.t 67) (.k (.int .u64 4294967296)))⟩, ⟨(some 69), none, (.mv (.t 68))⟩, ⟨(some 70), (some (69, false)), (.mv (.t 15))⟩, 
  ⟨(some 71), (some (69, false)), (.mv (.t 10))⟩, ⟨(some 72), (some (69, false)), (.bin .mul (.t 70) (.t 71))⟩, ⟨(some 73), (some (69, false)), (.mv (.t 16))⟩, 
  ⟨(some 74), (some (69, false)), (.bin .mul (.k (.int .u64 4294967296)) (.t 73))⟩, ⟨(some 75), (some (69, false)), (.mv (.t 13))⟩, 
  ⟨(some 76), (some (69, false)), (.bin .add (.t 74) (.t 75))⟩, ⟨(some 77), (some (69, false)), (.bin .gtr (.t 72) (.t 76))⟩, 
  ⟨(some 78), none, (.pick (.t 69) (.k (.bool true)) (.t 77))⟩]) (.cond (.t 78) .skip (.exit 0))) (.block 1 (.seq (.reg [⟨(some 79), none, (.mv (.t 15))⟩, 
  ⟨(some 80), none, (.bin .sub (.t 79) (.k (.int .u64 1)))⟩, ⟨(some 15), none, (.mv (.t 80))⟩]) (.seq (.reg [⟨(some 81), none, (.mv (.t 16))⟩, ⟨(some 82), none, (.mv (.t 9))⟩, 
  ⟨(some 83), none, (.bin .add (.t 81) (.t 82))⟩, ⟨(some 16), none, (.mv (.t 83))⟩]) (.seq (.reg [⟨(some 84), none, (.mv (.t 16))⟩, 
  ⟨(some 85), none, (.bin .geq (.t 84) (.k (.int .u64 4294967296)))⟩]) (.cond (.t 85) (.exit 0) .skip)))))))) (.seq (.reg [⟨(some 86), none, (.mv (.t 11))⟩, 
  ⟨(some 87), none, (.bin .mul (.t 86) (.k (.int .u64 4294967296)))⟩, ⟨(some 88), none, (.mv (.t 13))⟩, ⟨(some 89), none, (.bin .add (.t 87) (.t 88))⟩, 
  ⟨(some 90), none, (.mv (.t 15))⟩, ⟨(some 91), none, (.mv (.t 2))⟩, ⟨(some 92), none, (.bin .mul (.t 90) (.t 91))⟩, ⟨(some 93), none, (.bin .sub (.t 89) (.t 92))⟩, 
  ⟨(some 17), none, (.mv (.t 93))⟩]) (.seq (.reg [⟨(some 94), none, (.mv (.t 17))⟩, ⟨(some 95), none, (.mv (.t 9))⟩, ⟨(some 96), none, (.bin .quo (.t 94) (.t 95))⟩, 
  ⟨(some 18), none, (.mv (.t 96))⟩]) (.seq (.reg [⟨(some 97), none, (.mv (.t 17))⟩, ⟨(some 98), none, (.mv (.t 18))⟩, ⟨(some 99), none, (.mv (.t 9))⟩, 
  ⟨(some 100), none, (.bin .mul (.t 98) (.t 99))⟩, ⟨(some 101), none, (.bin .sub (.t 97) (.t 100))⟩, ⟨(some 16), none, (.mv (.t 101))⟩]) (.seq (.block 2 (.loop (.seq (.seq 
  (.reg [⟨(some 102), none, (.mv (.t 18))⟩, ⟨(some 103), none, (.bin .geq (.t 102) (.k (.int .u64 4294967296)))⟩, ⟨(some 104), none, (.mv (.t 103))⟩, 
  ⟨(some 105), (some (104, false)), (.mv (.t 18))⟩, ⟨(some 106), (some (104, false)), (.mv (.t 10))⟩, ⟨(some 107), (some (104, false)), (.bin .mul (.t 105) (.t 106))⟩, 
  ⟨(some 108), (some (104, false)), (.mv (.t 16))⟩, ⟨(some 109), (some (104, false)), (.bin .mul (.k (.int .u64 4294967296)) (.t 108))⟩, 
  ⟨(some 110), (some (104, false)), (.mv (.t 14))⟩, ⟨(some 111), (some (104, false)), (.bin .add (.t 109) (.t 110))⟩, 
  ⟨(some 112), (some (104, false)), (.bin .gtr (.t 107) (.t 111))⟩, ⟨(some 113), none, (.pick (.t 104) (.k (.bool true)) (.t 112))⟩]) (.cond (.t 113) .skip (.exit 2))) (.block 3 
  (.seq (.reg [⟨(some 114), none, (.mv (.t 18))⟩, ⟨(some 115), none, (.bin .sub (.t 114) (.k (.int .u64 1)))⟩, ⟨(some 18), none, (.mv (.t 115))⟩]) (.seq 
  (.reg [⟨(some 116), none, (.mv (.t 16))⟩, ⟨(some 117), none, (.mv (.t 9))⟩, ⟨(some 118), none, (.bin .add (.t 116) (.t 117))⟩, ⟨(some 16), none, (.mv (.t 118))⟩]) (.seq 
  (.reg [⟨(some 119), none, (.mv (.t 16))⟩, ⟨(some 120), none, (.bin .geq (.t 119) (.k (.int .u64 4294967296)))⟩]) (.cond (.t 120) (.exit 2) .skip)))))))) (.seq 
  (.reg [⟨(some 121), none, (.mv (.t 15))⟩, ⟨(some 122), none, (.bin .mul (.t 121) (.k (.int .u64 4294967296)))⟩, ⟨(some 123), none, (.mv (.t 18))⟩, 
  ⟨(some 124), none, (.bin .add (.t 122) (.t 123))⟩, ⟨(some 125), none, (.mv (.t 17))⟩, ⟨(some 126), none, (.bin .mul (.t 125) (.k (.int .u64 4294967296)))⟩, 
  ⟨(some 127), none, (.mv (.t 14))⟩, ⟨(some 128), none, (.bin .add (.t 126) (.t 127))⟩, ⟨(some 129), none, (.mv (.t 18))⟩, ⟨(some 130), none, (.mv (.t 2))⟩, 
  ⟨(some 131), none, (.bin .mul (.t 129) (.t 130))⟩, ⟨(some 132), none, (.bin .sub (.t 128) (.t 131))⟩, ⟨(some 133), none, (.mv (.t 8))⟩, 
  ⟨(some 134), none, (.bin .shr (.t 132) (.t 133))⟩, ⟨(some 6), none, (.mv (.t 124))⟩, ⟨(some 7), none, (.mv (.t 134))⟩]) .ret))))))))))))))))))))⟩
theorem c_bits_Div64 : compF Try.prog ⟨some 71, some 43⟩ Try.f58 = some r_bits_Div64 := by kernel_rfl
/-- math/bits.LeadingZeros64 -/
def r_bits_LeadingZeros64 : RF :=
  ⟨6, [(.tmp 2)], (.seq (.reg [⟨(some 2), none, (.mv (.k (.int .i64 0)))⟩]) (.seq (.reg [⟨(some 3), none, (.mv (.t 0))⟩, ⟨(some 4), none, (.call f_bits_Len64 [(.t 3)])⟩, 
  ⟨(some 5), none, (.bin .sub (.k (.int .i64 64)) (.t 4))⟩, ⟨(some 2), none, (.mv (.t 5))⟩]) .ret))⟩
theorem c_bits_LeadingZeros64 : compF Try.prog ⟨some 71, some 43⟩ Try.f59 = some r_bits_LeadingZeros64 := by kernel_rfl
/-- tenancy/addr.Up -/
def r_addr_Up : RF :=
  ⟨33, [(.cell (some 2) 4)], (.seq (.reg [⟨(some 2), none, (.box (some 2) (.t 0))⟩, ⟨(some 4), none, (.new [(.int .u64 0), (.int .u64 0)])⟩]) (.seq (.block 0 (.seq 
  (.reg [⟨(some 6), none, (.mv (.t 1))⟩, ⟨(some 7), none, (.bin .leq (.t 6) (.k (.int .i64 0)))⟩, ⟨(some 5), none, (.mv (.t 7))⟩]) (.cond (.t 5) (.seq 
  (.reg [⟨(some 8), none, (.ld (some 2) (.t 2))⟩, ⟨none, none, (.st (some 2) (.t 4) (.t 8))⟩]) .ret) (.seq (.reg [⟨(some 10), none, (.mv (.t 1))⟩, 
  ⟨(some 11), none, (.bin .geq (.t 10) (.k (.int .i64 64)))⟩, ⟨(some 9), none, (.mv (.t 11))⟩]) (.cond (.t 9) (.seq (.reg [⟨(some 12), none, (.off 1 (.t 2))⟩, 
  ⟨(some 13), none, (.ld none (.t 12))⟩, ⟨(some 14), none, (.mv (.t 1))⟩, ⟨(some 15), none, (.bin .sub (.t 14) (.k (.int .i64 64)))⟩, ⟨(some 16), none, (.bin .shl (.t 13) (.t 15))⟩, 
  ⟨(some 17), none, (.bld [(.int .u64 0), (.int .u64 0)] [(0, (1, (.t 16)))])⟩, ⟨none, none, (.st (some 2) (.t 4) (.t 17))⟩]) .ret) .skip))))) (.seq 
  (.drw 0 [⟨⟨(some 18), none, (.off 0 (.t 2))⟩, .pure, [], []⟩, ⟨⟨(some 19), none, (.ld none (.t 18))⟩, .ld, [], []⟩, ⟨⟨(some 20), none, (.mv (.t 1))⟩, .pure, [1], []⟩, 
  ⟨⟨(some 21), none, (.bin .shl (.t 19) (.t 20))⟩, .pure, [], []⟩, ⟨⟨(some 22), none, (.off 1 (.t 2))⟩, .pure, [1], []⟩, ⟨⟨(some 23), none, (.ld none (.t 22))⟩, .ld, [], []⟩, 
  ⟨⟨(some 24), none, (.mv (.t 1))⟩, .pure, [1, 5], []⟩, ⟨⟨(some 25), none, (.bin .sub (.k (.int .i64 64)) (.t 24))⟩, .pure, [1, 5], []⟩, 
  ⟨⟨(some 26), none, (.bin .shr (.t 23) (.t 25))⟩, .pure, [1], []⟩, ⟨⟨(some 27), none, (.bin .or (.t 21) (.t 26))⟩, .pure, [], []⟩, 
  ⟨⟨(some 28), none, (.off 1 (.t 2))⟩, .pure, [1, 5], []⟩, ⟨⟨(some 29), none, (.ld none (.t 28))⟩, .ld, [], []⟩, ⟨⟨(some 30), none, (.mv (.t 1))⟩, .pure, [1, 5, 11], []⟩, 
  ⟨⟨(some 31), none, (.bin .shl (.t 29) (.t 30))⟩, .pure, [1, 5], []⟩, 
  ⟨⟨(some 32), none, (.bld [(.int .u64 0), (.int .u64 0)] [(0, (1, (.t 27))), (1, (1, (.t 31)))])⟩, .pure, [], []⟩, 
  ⟨⟨none, none, (.st (some 2) (.t 4) (.t 32))⟩, .eff, [], []⟩]) .ret)))⟩
theorem c_addr_Up : compF Try.prog ⟨some 71, some 43⟩ Try.f60 = some r_addr_Up := by kernel_rfl
/-- tenancy/tenancyref01.Add -/
def r_r01_Add : RF :=
  ⟨35, [(.cell (some 2) 4), (.tmp 5)], (.seq (.reg [⟨(some 2), none, (.box (some 2) (.t 0))⟩, ⟨(some 3), none, (.box (some 2) (.t 1))⟩, 
  ⟨(some 4), none, (.new [(.int .u64 0), (.int .u64 0)])⟩, ⟨(some 5), none, (.mv (.k (.bool false)))⟩]) (.seq (.reg [⟨(some 10), none, (.bld [(.int .u64 0), (.int .u64 0)] [])⟩, 
  ⟨(some 6), none, (.new [(.int .u64 0), (.int .u64 0)])⟩, ⟨none, none, (.st (some 2) (.t 6) (.t 10))⟩]) (.seq (.reg [⟨(some 7), none, (.mv (.k (.int .u64 0)))⟩]) (.seq (.seq 
  (.reg [⟨(some 8), none, (.mv (.k (.int .i64 127)))⟩]) (.block 0 (.loop (.seq (.seq (.reg [⟨(some 11), none, (.mv (.t 8))⟩, 
  ⟨(some 12), none, (.bin .geq (.t 11) (.k (.int .i64 0)))⟩]) (.cond (.t 12) .skip (.exit 0))) (.seq (.block 1 (.seq 
  (.drw 0 [⟨⟨(some 15), none, (.ld (some 2) (.t 2))⟩, .ld, [], []⟩, ⟨⟨(some 16), none, (.mv (.t 8))⟩, .pure, [0], []⟩, 
  ⟨⟨(some 17), none, (.call f_r01_bit [(.t 15), (.t 16)])⟩, .eff, [], []⟩, ⟨⟨(some 18), none, (.ld (some 2) (.t 3))⟩, .ld, [2], []⟩, 
  ⟨⟨(some 19), none, (.mv (.t 8))⟩, .pure, [0, 3], []⟩, ⟨⟨(some 20), none, (.call f_r01_bit [(.t 18), (.t 19)])⟩, .eff, [], []⟩, 
  ⟨⟨(some 21), none, (.bin .add (.t 17) (.t 20))⟩, .pure, [], []⟩, ⟨⟨(some 22), none, (.mv (.t 7))⟩, .pure, [0, 3], []⟩, 
  ⟨⟨(some 23), none, (.bin .add (.t 21) (.t 22))⟩, .pure, [], []⟩, ⟨⟨(some 9), none, (.mv (.t 23))⟩, .pure, [], []⟩]) (.seq (.seq (.reg [⟨(some 24), none, (.mv (.t 9))⟩, 
  ⟨(some 25), none, (.bin .rem (.t 24) (.k (.int .u64 2)))⟩, ⟨(some 26), none, (.eq false .i (.t 25) (.k (.int .u64 1)))⟩]) (.cond (.t 26) 
  (.reg [⟨(some 27), none, (.ld (some 2) (.t 6))⟩, ⟨(some 28), none, (.mv (.t 8))⟩, ⟨(some 29), none, (.call f_r01_with [(.t 27), (.t 28)])⟩, 
  ⟨none, none, (.st (some 2) (.t 6) (.t 29))⟩]) .skip)) (.reg [⟨(some 30), none, (.mv (.t 9))⟩, ⟨(some 31), none, (.bin .quo (.t 30) (.k (.int .u64 2)))⟩, 
  ⟨(some 7), none, (.mv (.t 31))⟩])))) (.reg [⟨(some 13), none, (.mv (.t 8))⟩, ⟨(some 14), none, (.bin .sub (.t 13) (.k (.int .i64 1)))⟩, ⟨(some 8), none, (.mv (.t 14))⟩])))))) 
  (.seq (.reg [⟨(some 32), none, (.ld (some 2) (.t 6))⟩, ⟨(some 33), none, (.mv (.t 7))⟩, ⟨(some 34), none, (.eq false .i (.t 33) (.k (.int .u64 1)))⟩, 
  ⟨none, none, (.st (some 2) (.t 4) (.t 32))⟩, ⟨(some 5), none, (.mv (.t 34))⟩]) .ret)))))⟩
theorem c_r01_Add : compF Try.prog ⟨some 71, some 43⟩ Try.f61 = some r_r01_Add := by kernel_rfl
/-- tenancy/tenancyref03.size -/
def r_r03_size : RF :=
  ⟨19, [(.cell (some 2) 2)], (.seq (.reg [⟨(some 1), none, (.box (some 4) (.t 0))⟩, ⟨(some 2), none, (.new [(.int .u64 0), (.int .u64 0)])⟩]) (.seq 
  (.reg [⟨(some 6), none, (.off 2 (.t 1))⟩, ⟨(some 7), none, (.ld (some 2) (.t 6))⟩, ⟨(some 8), none, (.off 0 (.t 1))⟩, ⟨(some 9), none, (.ld (some 2) (.t 8))⟩, 
  ⟨(some 10), none, (.call f_r01_Sub [(.t 7), (.t 9)])⟩, ⟨(some 5), none, (.mv (.t 10))⟩, ⟨(some 11), none, (.ext 0 (.t 5))⟩, ⟨(some 12), none, (.ext 1 (.t 5))⟩, 
  ⟨(some 3), none, (.new [(.int .u64 0), (.int .u64 0)])⟩, ⟨none, none, (.st (some 2) (.t 3) (.t 11))⟩, ⟨(some 4), none, (.mv (.t 12))⟩]) (.seq 
  (.reg [⟨(some 14), none, (.ld (some 2) (.t 3))⟩, ⟨(some 15), none, (.call f_r03_next [(.t 14)])⟩, ⟨(some 13), none, (.mv (.t 15))⟩, ⟨(some 16), none, (.ext 0 (.t 13))⟩, 
  ⟨(some 17), none, (.ext 1 (.t 13))⟩, ⟨none, none, (.st (some 2) (.t 3) (.t 16))⟩]) (.seq (.reg [⟨(some 18), none, (.ld (some 2) (.t 3))⟩, 
  ⟨none, none, (.st (some 2) (.t 2) (.t 18))⟩]) .ret))))⟩
theorem c_r03_size : compF Try.prog ⟨some 71, some 43⟩ Try.f62 = some r_r03_size := by kernel_rfl
/-- tenancy/tenancyref01.bit -/
def r_r01_bit : RF :=
  ⟨21, [(.tmp 4)], (.seq (.reg [⟨(some 2), none, (.box (some 2) (.t 0))⟩, ⟨(some 4), none, (.mv (.k (.int .u64 0)))⟩]) (.seq (.seq (.reg [⟨(some 5), none, (.mv (.t 1))⟩, 
  ⟨(some 6), none, (.bin .lss (.t 5) (.k (.int .i64 64)))⟩]) (.cond (.t 6) (.seq (.reg [⟨(some 7), none, (.off 0 (.t 2))⟩, ⟨(some 8), none, (.ld none (.t 7))⟩, 
  ⟨(some 9), none, (.mv (.t 1))⟩, ⟨(some 10), none, (.bin .sub (.k (.int .i64 63)) (.t 9))⟩, ⟨(some 11), none, (.cvi .u64 (.t 10))⟩, ⟨(some 12), none, (.bin .shr (.t 8) (.t 11))⟩, 
  ⟨(some 13), none, (.bin .and (.t 12) (.k (.int .u64 1)))⟩, ⟨(some 4), none, (.mv (.t 13))⟩]) .ret) .skip)) (.seq (.reg [⟨(some 14), none, (.off 1 (.t 2))⟩, 
  ⟨(some 15), none, (.ld none (.t 14))⟩, ⟨(some 16), none, (.mv (.t 1))⟩, ⟨(some 17), none, (.bin .sub (.k (.int .i64 127)) (.t 16))⟩, ⟨(some 18), none, (.cvi .u64 (.t 17))⟩, 
  ⟨(some 19), none, (.bin .shr (.t 15) (.t 18))⟩, ⟨(some 20), none, (.bin .and (.t 19) (.k (.int .u64 1)))⟩, ⟨(some 4), none, (.mv (.t 20))⟩]) .ret)))⟩
theorem c_r01_bit : compF Try.prog ⟨some 71, some 43⟩ Try.f63 = some r_r01_bit := by kernel_rfl
/-- tenancy/tenancyref01.Up -/
def r_r01_Up : RF :=
  ⟨35, [(.cell (some 2) 4)], (.seq (.reg [⟨(some 2), none, (.box (some 2) (.t 0))⟩, ⟨(some 4), none, (.new [(.int .u64 0), (.int .u64 0)])⟩]) (.seq (.seq 
  (.reg [⟨(some 7), none, (.mv (.t 1))⟩, ⟨(some 8), none, (.bin .lss (.t 7) (.k (.int .i64 0)))⟩]) (.cond (.t 8) (.seq (.reg [⟨(some 9), none, (.ld (some 2) (.t 2))⟩, 
  ⟨none, none, (.st (some 2) (.t 4) (.t 9))⟩]) .ret) .skip)) (.seq (.reg [⟨(some 10), none, (.bld [(.int .u64 0), (.int .u64 0)] [])⟩, 
  ⟨(some 5), none, (.new [(.int .u64 0), (.int .u64 0)])⟩, ⟨none, none, (.st (some 2) (.t 5) (.t 10))⟩]) (.seq (.seq (.reg [⟨(some 6), none, (.mv (.k (.int .i64 0)))⟩]) (.block 0 
  (.loop (.seq (.seq (.reg [⟨(some 11), none, (.mv (.t 6))⟩, ⟨(some 12), none, (.bin .lss (.t 11) (.k (.int .i64 128)))⟩, ⟨(some 13), none, (.mv (.t 12))⟩, 
  ⟨(some 14), (some (13, true)), (.mv (.t 1))⟩, ⟨(some 15), (some (13, true)), (.bin .lss (.t 14) (.k (.int .i64 128)))⟩, 
  ⟨(some 16), none, (.pick (.t 13) (.t 15) (.k (.bool false)))⟩, ⟨(some 17), none, (.mv (.t 16))⟩, ⟨(some 18), (some (17, true)), (.mv (.t 6))⟩, 
  ⟨(some 19), (some (17, true)), (.mv (.t 1))⟩, ⟨(some 20), (some (17, true)), (.bin .add (.t 18) (.t 19))⟩, 
  ⟨(some 21), (some (17, true)), (.bin .lss (.t 20) (.k (.int .i64 128)))⟩, ⟨(some 22), none, (.pick (.t 17) (.t 21) (.k (.bool false)))⟩]) (.cond (.t 22) .skip (.exit 0))) (.seq 
  (.block 1 (.seq (.reg [⟨(some 25), none, (.ld (some 2) (.t 2))⟩, ⟨(some 26), none, (.mv (.t 6))⟩, ⟨(some 27), none, (.mv (.t 1))⟩, ⟨(some 28), none, (.bin .add (.t 26) (.t 27))⟩, 
  ⟨(some 29), none, (.call f_r01_bit [(.t 25), (.t 28)])⟩, ⟨(some 30), none, (.eq false .i (.t 29) (.k (.int .u64 1)))⟩]) (.cond (.t 30) 
  (.reg [⟨(some 31), none, (.ld (some 2) (.t 5))⟩, ⟨(some 32), none, (.mv (.t 6))⟩, ⟨(some 33), none, (.call f_r01_with [(.t 31), (.t 32)])⟩, 
  ⟨none, none, (.st (some 2) (.t 5) (.t 33))⟩]) .skip))) (.reg [⟨(some 23), none, (.mv (.t 6))⟩, ⟨(some 24), none, (.bin .add (.t 23) (.k (.int .i64 1)))⟩, 
  ⟨(some 6), none, (.mv (.t 24))⟩])))))) (.seq (.reg [⟨(some 34), none, (.ld (some 2) (.t 5))⟩, ⟨none, none, (.st (some 2) (.t 4) (.t 34))⟩]) .ret)))))⟩
theorem c_r01_Up : compF Try.prog ⟨some 71, some 43⟩ Try.f64 = some r_r01_Up := by kernel_rfl
/-- tenancy/tenancyref01.with -/
def r_r01_with : RF :=
  ⟨24, [(.cell (some 2) 4)], (.seq (.reg [⟨(some 2), none, (.box (some 2) (.t 0))⟩, ⟨(some 4), none, (.new [(.int .u64 0), (.int .u64 0)])⟩]) (.seq (.seq 
  (.reg [⟨(some 5), none, (.mv (.t 1))⟩, ⟨(some 6), none, (.bin .lss (.t 5) (.k (.int .i64 64)))⟩]) (.cond (.t 6) (.reg [⟨(some 7), none, (.off 0 (.t 2))⟩, 
  ⟨(some 8), none, (.ld none (.t 7))⟩, ⟨(some 9), none, (.mv (.t 1))⟩, ⟨(some 10), none, (.bin .sub (.k (.int .i64 63)) (.t 9))⟩, ⟨(some 11), none, (.cvi .u64 (.t 10))⟩, 
  ⟨(some 12), none, (.bin .shl (.k (.int .u64 1)) (.t 11))⟩, ⟨(some 13), none, (.bin .or (.t 8) (.t 12))⟩, ⟨(some 14), none, (.off 0 (.t 2))⟩, 
  ⟨none, none, (.st none (.t 14) (.t 13))⟩]) (.reg [⟨(some 15), none, (.off 1 (.t 2))⟩, ⟨(some 16), none, (.ld none (.t 15))⟩, ⟨(some 17), none, (.mv (.t 1))⟩, 
  ⟨(some 18), none, (.bin .sub (.k (.int .i64 127)) (.t 17))⟩, ⟨(some 19), none, (.cvi .u64 (.t 18))⟩, ⟨(some 20), none, (.bin .shl (.k (.int .u64 1)) (.t 19))⟩, 
  ⟨(some 21), none, (.bin .or (.t 16) (.t 20))⟩, ⟨(some 22), none, (.off 1 (.t 2))⟩, ⟨none, none, (.st none (.t 22) (.t 21))⟩]))) (.seq 
  (.reg [⟨(some 23), none, (.ld (some 2) (.t 2))⟩, ⟨none, none, (.st (some 2) (.t 4) (.t 23))⟩]) .ret)))⟩
theorem c_r01_with : compF Try.prog ⟨some 71, some 43⟩ Try.f65 = some r_r01_with := by kernel_rfl
/-- tenancy/tenancyref01.Cmp -/
def r_r01_Cmp : RF :=
  ⟨24, [(.tmp 4)], (.seq (.reg [⟨(some 2), none, (.box (some 2) (.t 0))⟩, ⟨(some 3), none, (.box (some 2) (.t 1))⟩, ⟨(some 4), none, (.mv (.k (.int .i64 0)))⟩]) (.seq (.seq 
  (.reg [⟨(some 5), none, (.mv (.k (.int .i64 0)))⟩]) (.block 0 (.loop (.seq (.seq (.reg [⟨(some 6), none, (.mv (.t 5))⟩, ⟨(some 7), none, (.bin .lss (.t 6) (.k (.int .i64 128)))⟩]) 
  (.cond (.t 7) .skip (.exit 0))) (.seq (.block 1 (.seq (.seq (.drw 0 [⟨⟨(some 10), none, (.ld (some 2) (.t 2))⟩, .ld, [], []⟩, ⟨⟨(some 11), none, (.mv (.t 5))⟩, .pure, [0], []⟩, 
  ⟨⟨(some 12), none, (.call f_r01_bit [(.t 10), (.t 11)])⟩, .eff, [], []⟩, ⟨⟨(some 13), none, (.ld (some 2) (.t 3))⟩, .ld, [2], []⟩, 
  ⟨⟨(some 14), none, (.mv (.t 5))⟩, .pure, [0, 3], []⟩, ⟨⟨(some 15), none, (.call f_r01_bit [(.t 13), (.t 14)])⟩, .eff, [], []⟩, 
  ⟨⟨(some 16), none, (.bin .lss (.t 12) (.t 15))⟩, .pure, [], []⟩]) (.cond (.t 16) (.seq (.reg [⟨(some 4), none, (.mv (.k (.int .i64 (-1))))⟩]) .ret) .skip)) (.seq 
  (.drw 0 [⟨⟨(some 17), none, (.ld (some 2) (.t 2))⟩, .ld, [], []⟩, ⟨⟨(some 18), none, (.mv (.t 5))⟩, .pure, [0], []⟩, 
  ⟨⟨(some 19), none, (.call f_r01_bit [(.t 17), (.t 18)])⟩, .eff, [], []⟩, ⟨⟨(some 20), none, (.ld (some 2) (.t 3))⟩, .ld, [2], []⟩, 
  ⟨⟨(some 21), none, (.mv (.t 5))⟩, .pure, [0, 3], []⟩, ⟨⟨(some 22), none, (.call f_r01_bit [(.t 20), (.t 21)])⟩, .eff, [], []⟩, 
  ⟨⟨(some 23), none, (.bin .gtr (.t 19) (.t 22))⟩, .pure, [], []⟩]) (.cond (.t 23) (.seq (.reg [⟨(some 4), none, (.mv (.k (.int .i64 1)))⟩]) .ret) .skip)))) 
  (.reg [⟨(some 8), none, (.mv (.t 5))⟩, ⟨(some 9), none, (.bin .add (.t 8) (.k (.int .i64 1)))⟩, ⟨(some 5), none, (.mv (.t 9))⟩])))))) (.seq 
  (.reg [⟨(some 4), none, (.mv (.k (.int .i64 0)))⟩]) .ret)))⟩
theorem c_r01_Cmp : compF Try.prog ⟨some 71, some 43⟩ Try.f66 = some r_r01_Cmp := by kernel_rfl
/-- tenancy/tenancyref01.Sub -/
def r_r01_Sub : RF :=
  ⟨37, [(.cell (some 2) 4), (.tmp 5)], (.seq (.reg [⟨(some 2), none, (.box (some 2) (.t 0))⟩, ⟨(some 3), none, (.box (some 2) (.t 1))⟩, 
  ⟨(some 4), none, (.new [(.int .u64 0), (.int .u64 0)])⟩, ⟨(some 5), none, (.mv (.k (.bool false)))⟩]) (.seq (.reg [⟨(some 10), none, (.bld [(.int .u64 0), (.int .u64 0)] [])⟩, 
  ⟨(some 6), none, (.new [(.int .u64 0), (.int .u64 0)])⟩, ⟨none, none, (.st (some 2) (.t 6) (.t 10))⟩]) (.seq (.reg [⟨(some 7), none, (.mv (.k (.int .u64 0)))⟩]) (.seq (.seq 
  (.reg [⟨(some 8), none, (.mv (.k (.int .i64 127)))⟩]) (.block 0 (.loop (.seq (.seq (.reg [⟨(some 11), none, (.mv (.t 8))⟩, 
  ⟨(some 12), none, (.bin .geq (.t 11) (.k (.int .i64 0)))⟩]) (.cond (.t 12) .skip (.exit 0))) (.seq (.block 1 (.seq 
  (.drw 0 [⟨⟨(some 15), none, (.ld (some 2) (.t 2))⟩, .ld, [], []⟩, ⟨⟨(some 16), none, (.mv (.t 8))⟩, .pure, [0], []⟩, 
  ⟨⟨(some 17), none, (.call f_r01_bit [(.t 15), (.t 16)])⟩, .eff, [], []⟩, ⟨⟨(some 18), none, (.bin .add (.t 17) (.k (.int .u64 2)))⟩, .pure, [], []⟩, 
  ⟨⟨(some 19), none, (.ld (some 2) (.t 3))⟩, .ld, [2], []⟩, ⟨⟨(some 20), none, (.mv (.t 8))⟩, .pure, [0, 4], []⟩, 
  ⟨⟨(some 21), none, (.call f_r01_bit [(.t 19), (.t 20)])⟩, .eff, [], []⟩, ⟨⟨(some 22), none, (.bin .sub (.t 18) (.t 21))⟩, .pure, [], []⟩, 
  ⟨⟨(some 23), none, (.mv (.t 7))⟩, .pure, [0, 4], []⟩, ⟨⟨(some 24), none, (.bin .sub (.t 22) (.t 23))⟩, .pure, [], []⟩, ⟨⟨(some 9), none, (.mv (.t 24))⟩, .pure, [], []⟩]) (.seq 
  (.seq (.reg [⟨(some 25), none, (.mv (.t 9))⟩, ⟨(some 26), none, (.bin .rem (.t 25) (.k (.int .u64 2)))⟩, ⟨(some 27), none, (.eq false .i (.t 26) (.k (.int .u64 1)))⟩]) 
  (.cond (.t 27) (.reg [⟨(some 28), none, (.ld (some 2) (.t 6))⟩, ⟨(some 29), none, (.mv (.t 8))⟩, ⟨(some 30), none, (.call f_r01_with [(.t 28), (.t 29)])⟩, 
  ⟨none, none, (.st (some 2) (.t 6) (.t 30))⟩]) .skip)) (.reg [⟨(some 31), none, (.mv (.t 9))⟩, ⟨(some 32), none, (.bin .quo (.t 31) (.k (.int .u64 2)))⟩, 
  ⟨(some 33), none, (.bin .sub (.k (.int .u64 1)) (.t 32))⟩, ⟨(some 7), none, (.mv (.t 33))⟩])))) (.reg [⟨(some 13), none, (.mv (.t 8))⟩, 
  ⟨(some 14), none, (.bin .sub (.t 13) (.k (.int .i64 1)))⟩, ⟨(some 8), none, (.mv (.t 14))⟩])))))) (.seq (.reg [⟨(some 34), none, (.ld (some 2) (.t 6))⟩, 
  ⟨(some 35), none, (.mv (.t 7))⟩, ⟨(some 36), none, (.eq false .i (.t 35) (.k (.int .u64 1)))⟩, ⟨none, none, (.st (some 2) (.t 4) (.t 34))⟩, 
  ⟨(some 5), none, (.mv (.t 36))⟩]) .ret)))))⟩
theorem c_r01_Sub : compF Try.prog ⟨some 71, some 43⟩ Try.f67 = some r_r01_Sub := by kernel_rfl
/-- tenancy/tenancyref03.ahead -/
def r_r03_ahead : RF :=
  ⟨15, [(.cell (some 2) 2), (.tmp 3)], (.seq (.reg [⟨(some 1), none, (.box (some 2) (.t 0))⟩, ⟨(some 2), none, (.new [(.int .u64 0), (.int .u64 0)])⟩, 
  ⟨(some 3), none, (.mv (.k (.bool false)))⟩]) (.seq (.reg [⟨(some 7), none, (.ld (some 2) (.t 1))⟩, 
  ⟨(some 8), none, (.bld [(.int .u64 0), (.int .u64 0)] [(1, (1, (.k (.int .u64 1))))])⟩, ⟨(some 9), none, (.call f_r01_Sub [(.t 7), (.t 8)])⟩, ⟨(some 6), none, (.mv (.t 9))⟩, 
  ⟨(some 10), none, (.ext 0 (.t 6))⟩, ⟨(some 11), none, (.ext 1 (.t 6))⟩, ⟨(some 4), none, (.new [(.int .u64 0), (.int .u64 0)])⟩, ⟨none, none, (.st (some 2) (.t 4) (.t 10))⟩, 
  ⟨(some 5), none, (.mv (.t 11))⟩]) (.seq (.reg [⟨(some 12), none, (.ld (some 2) (.t 4))⟩, ⟨(some 13), none, (.mv (.t 5))⟩, ⟨(some 14), none, (.un .not (.t 13))⟩, 
  ⟨none, none, (.st (some 2) (.t 2) (.t 12))⟩, ⟨(some 3), none, (.mv (.t 14))⟩]) .ret)))⟩
theorem c_r03_ahead : compF Try.prog ⟨some 71, some 43⟩ Try.f68 = some r_r03_ahead := by kernel_rfl
/-- slices.pdqsortCmpFunc[tenancy/api.Addr] -/
def r_slices_pdqsortCmpFunc_Addr : RF :=
  ⟨148, [], (.seq (.reg [⟨(some 10), none, (.mv (.k (.bool true)))⟩]) (.seq (.reg [⟨(some 11), none, (.mv (.k (.bool true)))⟩]) (.block 0 (.loop (.block 1 (.seq 
  (.reg [⟨(some 21), none, (.mv (.t 2))⟩, ⟨(some 22), none, (.mv (.t 1))⟩, ⟨(some 23), none, (.bin .sub (.t 21) (.t 22))⟩, ⟨(some 12), none, (.mv (.t 23))⟩]) (.seq (.seq 
  (.reg [⟨(some 24), none, (.mv (.t 12))⟩, ⟨(some 25), none, (.bin .leq (.t 24) (.k (.int .i64 12)))⟩]) (.cond (.t 25) (.seq (.reg [⟨(some 26), none, (.mv (.t 0))⟩, 
  ⟨(some 27), none, (.mv (.t 1))⟩, ⟨(some 28), none, (.mv (.t 2))⟩, ⟨(some 29), none, (.mv (.t 4))⟩, 
  ⟨(some 30), none, (.call f_slices_insertionSortCmpFunc_Addr [(.t 26), (.t 27), (.t 28), (.t 29)])⟩]) .ret) .skip)) (.seq (.seq (.reg [⟨(some 31), none, (.mv (.t 3))⟩, 
  ⟨(some 32), none, (.eq false .i (.t 31) (.k (.int .i64 0)))⟩]) (.cond (.t 32) (.seq (.reg [⟨(some 33), none, (.mv (.t 0))⟩, ⟨(some 34), none, (.mv (.t 1))⟩, 
  ⟨(some 35), none, (.mv (.t 2))⟩, ⟨(some 36), none, (.mv (.t 4))⟩, ⟨(some 37), none, (.call f_slices_heapSortCmpFunc_Addr [(.t 33), (.t 34), (.t 35), (.t 36)])⟩]) .ret) .skip)) 
  (.seq (.seq (.reg [⟨(some 38), none, (.mv (.t 10))⟩, ⟨(some 39), none, (.un .not (.t 38))⟩]) (.cond (.t 39) (.seq (.reg [⟨(some 40), none, (.mv (.t 0))⟩, 
  ⟨(some 41), none, (.mv (.t 1))⟩, ⟨(some 42), none, (.mv (.t 2))⟩, ⟨(some 43), none, (.mv (.t 4))⟩, 
  ⟨(some 44), none, (.call f_slices_breakPatternsCmpFunc_Addr [(.t 40), (.t 41), (.t 42), (.t 43)])⟩]) (.reg [⟨(some 45), none, (.mv (.t 3))⟩, 
  ⟨(some 46), none, (.bin .sub (.t 45) (.k (.int .i64 1)))⟩, ⟨(some 3), none, (.mv (.t 46))⟩])) .skip)) (.seq (.reg [⟨(some 48), none, (.mv (.t 0))⟩, 
  ⟨(some 49), none, (.mv (.t 1))⟩, ⟨(some 50), none, (.mv (.t 2))⟩, ⟨(some 51), none, (.mv (.t 4))⟩, 
  ⟨(some 52), none, (.call f_slices_choosePivotCmpFunc_Addr [(.t 48), (.t 49), (.t 50), (.t 51)])⟩, ⟨(some 47), none, (.mv (.t 52))⟩, ⟨(some 53), none, (.ext 0 (.t 47))⟩, 
  ⟨(some 54), none, (.ext 1 (.t 47))⟩, ⟨(some 13), none, (.mv (.t 53))⟩, ⟨(some 14), none, (.mv (.t 54))⟩]) (.seq (.seq (.reg [⟨(some 55), none, (.mv (.t 14))⟩, 
  ⟨(some 56), none, (.eq false .i (.t 55) (.k (.int .i64 2)))⟩]) (.cond (.t 56) (.seq (.reg [⟨(some 57), none, (.mv (.t 0))⟩, ⟨(some 58), none, (.mv (.t 1))⟩, 
  ⟨(some 59), none, (.mv (.t 2))⟩, ⟨(some 60), none, (.mv (.t 4))⟩, ⟨(some 61), none, (.call f_slices_reverseRangeCmpFunc_Addr [(.t 57), (.t 58), (.t 59), (.t 60)])⟩]) (.seq 
  (.reg [⟨(some 62), none, (.mv (.t 2))⟩, ⟨(some 63), none, (.bin .sub (.t 62) (.k (.int .i64 1)))⟩, ⟨(some 64), none, (.mv (.t 13))⟩, ⟨(some 65), none, (.mv (.t 1))⟩, 
  ⟨(some 66), none, (.bin .sub (.t 64) (.t 65))⟩, ⟨(some 67), none, (.bin .sub (.t 63) (.t 66))⟩, ⟨(some 13), none, (.mv (.t 67))⟩]) 
  (.reg [⟨(some 14), none, (.mv (.k (.int .i64 1)))⟩]))) .skip)) (.seq (.seq (.reg [⟨(some 68), none, (.mv (.t 10))⟩, ⟨(some 69), none, (.mv (.t 68))⟩, 
  ⟨(some 70), (some (69, true)), (.mv (.t 11))⟩, ⟨(some 71), none, (.pick (.t 69) (.t 70) (.k (.bool false)))⟩, ⟨(some 72), none, (.mv (.t 71))⟩, 
  ⟨(some 73), (some (72, true)), (.mv (.t 14))⟩, ⟨(some 74), (some (72, true)), (.eq false .i (.t 73) (.k (.int .i64 1)))⟩, 
  ⟨(some 75), none, (.pick (.t 72) (.t 74) (.k (.bool false)))⟩]) (.cond (.t 75) (.seq (.reg [⟨(some 76), none, (.mv (.t 0))⟩, ⟨(some 77), none, (.mv (.t 1))⟩, 
  ⟨(some 78), none, (.mv (.t 2))⟩, ⟨(some 79), none, (.mv (.t 4))⟩, ⟨(some 80), none, (.call f_slices_partialInsertionSortCmpFunc_Addr [(.t 76), (.t 77), (.t 78), (.t 79)])⟩]) 
  (.cond (.t 80) .ret .skip)) .skip)) (.seq (.seq (.drw 0 [⟨⟨(some 81), none, (.mv (.t 1))⟩, .pure, [], []⟩, 
  ⟨⟨(some 82), none, (.bin .gtr (.t 81) (.k (.int .i64 0)))⟩, .pure, [], []⟩, ⟨⟨(some 83), none, (.mv (.t 82))⟩, .pure, [], []⟩, 
  ⟨⟨(some 84), (some (83, true)), (.mv (.t 4))⟩, .pure, [], []⟩, ⟨⟨(some 85), (some (83, true)), (.mv (.t 0))⟩, .pure, [], []⟩, 
  ⟨⟨(some 86), (some (83, true)), (.mv (.t 1))⟩, .pure, [], []⟩, ⟨⟨(some 87), (some (83, true)), (.bin .sub (.t 86) (.k (.int .i64 1)))⟩, .pure, [], []⟩, 
  ⟨⟨(some 88), (some (83, true)), (.ixa 2 (.t 85) (.t 87))⟩, .pure, [], []⟩, ⟨⟨(some 89), (some (83, true)), (.ld (some 2) (.t 88))⟩, .ld, [], []⟩, 
  ⟨⟨(some 90), (some (83, true)), (.mv (.t 0))⟩, .pure, [8], []⟩, ⟨⟨(some 91), (some (83, true)), (.mv (.t 13))⟩, .pure, [8], []⟩, 
  ⟨⟨(some 92), (some (83, true)), (.ixa 2 (.t 90) (.t 91))⟩, .pure, [8], []⟩, ⟨⟨(some 93), (some (83, true)), (.ld (some 2) (.t 92))⟩, .ld, [], []⟩, 
  ⟨⟨(some 94), (some (83, true)), (.calld (.t 84) [(.t 89), (.t 93)])⟩, .eff, [], []⟩, ⟨⟨(some 95), (some (83, true)), (.bin .lss (.t 94) (.k (.int .i64 0)))⟩, .pure, [], []⟩, 
  ⟨⟨(some 96), (some (83, true)), (.un .not (.t 95))⟩, .pure, [], []⟩, ⟨⟨(some 97), none, (.pick (.t 83) (.t 96) (.k (.bool false)))⟩, .pure, [], []⟩]) (.cond (.t 97) (.seq 
  (.reg [⟨(some 98), none, (.mv (.t 0))⟩, ⟨(some 99), none, (.mv (.t 1))⟩, ⟨(some 100), none, (.mv (.t 2))⟩, ⟨(some 101), none, (.mv (.t 13))⟩, ⟨(some 102), none, (.mv (.t 4))⟩, 
  ⟨(some 103), none, (.call f_slices_partitionEqualCmpFunc_Addr [(.t 98), (.t 99), (.t 100), (.t 101), (.t 102)])⟩, ⟨(some 15), none, (.mv (.t 103))⟩]) (.seq 
  (.reg [⟨(some 104), none, (.mv (.t 15))⟩, ⟨(some 1), none, (.mv (.t 104))⟩]) (.exit 1))) .skip)) (.seq (.reg [⟨(some 106), none, (.mv (.t 0))⟩, ⟨(some 107), none, (.mv (.t 1))⟩, 
  ⟨(some 108), none, (.mv (.t 2))⟩, ⟨(some 109), none, (.mv (.t 13))⟩, ⟨(some 110), none, (.mv (.t 4))⟩, 
  ⟨(some 111), none, (.call f_slices_partitionCmpFunc_Addr [(.t 106), (.t 107), (.t 108), (.t 109), (.t 110)])⟩, ⟨(some 105), none, (.mv (.t 111))⟩, 
  ⟨(some 112), none, (.ext 0 (.t 105))⟩, ⟨(some 113), none, (.ext 1 (.t 105))⟩, ⟨(some 16), none, (.mv (.t 112))⟩, ⟨(some 17), none, (.mv (.t 113))⟩]) (.seq 
  (.reg [⟨(some 114), none, (.mv (.t 17))⟩, ⟨(some 11), none, (.mv (.t 114))⟩]) (.seq (.reg [⟨(some 115), none, (.mv (.t 16))⟩, ⟨(some 116), none, (.mv (.t 1))⟩, 
  ⟨(some 117), none, (.bin .sub (.t 115) (.t 116))⟩, ⟨(some 118), none, (.mv (.t 2))⟩, ⟨(some 119), none, (.mv (.t 16))⟩, ⟨(some 120), none, (.bin .sub (.t 118) (.t 119))⟩, 
  ⟨(some 18), none, (.mv (.t 117))⟩, ⟨(some 19), none, (.mv (.t 120))⟩]) (.seq (.reg [⟨(some 121), none, (.mv (.t 12))⟩, ⟨(some 122), none, (.bin .quo (.t 121) (.k (.int .i64 8)))⟩, 
  ⟨(some 20), none, (.mv (.t 122))⟩]) (.seq (.reg [⟨(some 123), none, (.mv (.t 18))⟩, ⟨(some 124), none, (.mv (.t 19))⟩, ⟨(some 125), none, (.bin .lss (.t 123) (.t 124))⟩]) 
  (.cond (.t 125) (.seq (.reg [⟨(some 126), none, (.mv (.t 18))⟩, ⟨(some 127), none, (.mv (.t 20))⟩, ⟨(some 128), none, (.bin .geq (.t 126) (.t 127))⟩, 
  ⟨(some 10), none, (.mv (.t 128))⟩]) (.seq (.reg [⟨(some 129), none, (.mv (.t 0))⟩, ⟨(some 130), none, (.mv (.t 1))⟩, ⟨(some 131), none, (.mv (.t 16))⟩, 
  ⟨(some 132), none, (.mv (.t 3))⟩, ⟨(some 133), none, (.mv (.t 4))⟩, ⟨(some 134), none, (.call f_slices_pdqsortCmpFunc_Addr [(.t 129), (.t 130), (.t 131), (.t 132), (.t 133)])⟩]) 
  (.reg [⟨(some 135), none, (.mv (.t 16))⟩, ⟨(some 136), none, (.bin .add (.t 135) (.k (.int .i64 1)))⟩, ⟨(some 1), none, (.mv (.t 136))⟩]))) (.seq 
  (.reg [⟨(some 137), none, (.mv (.t 19))⟩, ⟨(some 138), none, (.mv (.t 20))⟩, ⟨(some 139), none, (.bin .geq (.t 137) (.t 138))⟩, ⟨(some 10), none, (.mv (.t 139))⟩]) (.seq 
  (.reg [⟨(some 140), none, (.mv (.t 0))⟩, ⟨(some 141), none, (.mv (.t 16))⟩, ⟨(some 142), none, (.bin .add (.t 141) (.k (.int .i64 1)))⟩, ⟨(some 143), none, (.mv (.t 2))⟩, 
  ⟨(some 144), none, (.mv (.t 3))⟩, ⟨(some 145), none, (.mv (.t 4))⟩, ⟨(some 146), none, (.call f_slices_pdqsortCmpFunc_Addr [(.t 140), (.t 142), (.t 143), (.t 144), (.t 145)])⟩]) 
  (.reg [⟨(some 147), none, (.mv (.t 16))⟩, ⟨(some 2), none, (.mv (.t 147))⟩]))))))))))))))))))))))⟩
theorem c_slices_pdqsortCmpFunc_Addr : compF Try.prog ⟨some 71, some 43⟩ Try.f69 = some r_slices_pdqsortCmpFunc_Addr := by kernel_rfl
/-- math/bits.Len -/
def r_bits_Len : RF :=
  ⟨8, [(.tmp 2)], (.seq (.reg [⟨(some 2), none, (.mv (.k (.int .i64 0)))⟩]) (.seq (.cond (.k (.bool false)) (.seq (.reg [⟨(some 3), none, (.mv (.t 0))⟩, 
  ⟨(some 4), none, (.cvi .u32 (.t 3))⟩, ⟨(some 5), none, (.call f_bits_Len32 [(.t 4)])⟩, ⟨(some 2), none, (.mv (.t 5))⟩]) .ret) .skip) (.seq (.reg [⟨(some 6), none, (.mv (.t 0))⟩, 
  ⟨(some 7), none, (.call f_bits_Len64 [(.t 6)])⟩, ⟨(some 2), none, (.mv (.t 7))⟩]) .ret)))⟩
theorem c_bits_Len : compF Try.prog ⟨some 71, some 43⟩ Try.f70 = some r_bits_Len := by kernel_rfl
/-- cmp.isNaN[uint64] -/
def r_cmp_isNaN_uint64 : RF :=
  ⟨6, [(.tmp 2)], (.seq (.reg [⟨(some 2), none, (.mv (.k (.bool false)))⟩]) (.seq (.reg [⟨(some 3), none, (.mv (.t 0))⟩, ⟨(some 4), none, (.mv (.t 0))⟩, 
  ⟨(some 5), none, (.eq true .i (.t 3) (.t 4))⟩, ⟨(some 2), none, (.mv (.t 5))⟩]) .ret))⟩
theorem c_cmp_isNaN_uint64 : compF Try.prog ⟨some 71, some 43⟩ Try.f72 = some r_cmp_isNaN_uint64 := by kernel_rfl
/-- slices.IndexFunc[[]tenancy/api.Range,tenancy/api.Range] -/
def r_slices_IndexFunc_Range : RF :=
  ⟨19, [(.tmp 4)], (.seq (.reg [⟨(some 4), none, (.mv (.k (.int .i64 0)))⟩]) (.seq (.seq (.reg [⟨(some 6), none, (.mv (.t 0))⟩, ⟨(some 7), none, (.lenl (.t 6))⟩, 
  ⟨(some 8), none, (.mv (.k (.int .i64 0)))⟩]) (.block 0 (.loop (.seq (.reg [⟨(some 9), none, (.bin .lss (.t 8) (.t 7))⟩]) (.seq (.cond (.t 9) .skip (.exit 0)) (.seq (.block 1 (.seq 
  (.reg [⟨(some 10), none, (.mv (.t 8))⟩, ⟨(some 5), none, (.mv (.t 10))⟩]) (.seq (.reg [⟨(some 11), none, (.mv (.t 1))⟩, ⟨(some 12), none, (.mv (.t 0))⟩, 
  ⟨(some 13), none, (.mv (.t 5))⟩, ⟨(some 14), none, (.ixa 4 (.t 12) (.t 13))⟩, ⟨(some 15), none, (.ld (some 4) (.t 14))⟩, ⟨(some 16), none, (.calld (.t 11) [(.t 15)])⟩]) 
  (.cond (.t 16) (.seq (.reg [⟨(some 17), none, (.mv (.t 5))⟩, ⟨(some 4), none, (.mv (.t 17))⟩]) .ret) .skip)))) (.reg [⟨(some 18), none, (.bin .add (.t 8) (.k (.int .i64 1)))⟩, 
  ⟨(some 8), none, (.mv (.t 18))⟩]))))))) (.seq (.reg [⟨(some 4), none, (.mv (.k (.int .i64 (-1))))⟩]) .ret)))⟩
theorem c_slices_IndexFunc_Range : compF Try.prog ⟨some 71, some 43⟩ Try.f73 = some r_slices_IndexFunc_Range := by kernel_rfl
/-- slices.Grow[[]tenancy/api.Range,tenancy/api.Range] -/
def r_slices_Grow_Range : RF :=
  ⟨27, [(.tmp 4)], (.seq (.reg [⟨(some 4), none, (.mv (.k .nils))⟩]) (.seq (.seq (.reg [⟨(some 5), none, (.mv (.t 1))⟩, ⟨(some 6), none, (.bin .lss (.t 5) (.k (.int .i64 0)))⟩]) 
  (.cond (.t 6) (.reg [⟨(some 7), none, (.mki 9 (.k (.str (bts [99, 97, 110, 110, 111, 116, 32, 98, 101, 32, 110, 101, 103, 97, 116, 105, 118, 101]))))⟩, 
  ⟨none, none, .fail⟩]) .skip)) (.seq (.seq (.reg [⟨(some 8), none, (.mv (.t 1))⟩, ⟨(some 9), none, (.mv (.t 0))⟩, ⟨(some 10), none, (.capl (.t 9))⟩, 
  ⟨(some 11), none, (.mv (.t 0))⟩, ⟨(some 12), none, (.lenl (.t 11))⟩, ⟨(some 13), none, (.bin .sub (.t 10) (.t 12))⟩, ⟨(some 14), none, (.bin .sub (.t 8) (.t 13))⟩, 
  ⟨(some 1), none, (.mv (.t 14))⟩]) (.seq (.reg [⟨(some 15), none, (.mv (.t 1))⟩, ⟨(some 16), none, (.bin .gtr (.t 15) (.k (.int .i64 0)))⟩]) (.cond (.t 16) 
  (.reg [⟨(some 17), none, (.mv (.t 0))⟩, ⟨(some 18), none, (.mv (.t 0))⟩, ⟨(some 19), none, (.capl (.t 18))⟩, ⟨(some 20), none, (.slc 4 (.t 17) none (some (.t 19)) none)⟩, 
  ⟨(some 21), none, (.mv (.t 1))⟩, ⟨(some 22), none, (.appz 4 32 [(.int .u64 0), (.int .u64 0), (.int .u64 0), (.int .u64 0)] (.t 20) (.t 21))⟩, ⟨(some 23), none, (.mv (.t 0))⟩, 
  ⟨(some 24), none, (.lenl (.t 23))⟩, ⟨(some 25), none, (.slc 4 (.t 22) none (some (.t 24)) none)⟩, ⟨(some 0), none, (.mv (.t 25))⟩]) .skip))) (.seq 
  (.reg [⟨(some 26), none, (.mv (.t 0))⟩, ⟨(some 4), none, (.mv (.t 26))⟩]) .ret))))⟩
theorem c_slices_Grow_Range : compF Try.prog ⟨some 71, some 43⟩ Try.f74 = some r_slices_Grow_Range := by kernel_rfl
/-- tenancy/tenancyref03.edges -/
def r_r03_edges : RF :=
  ⟨36, [(.tmp 2)], (.seq (.reg [⟨(some 2), none, (.mv (.k .nils))⟩]) (.seq (.reg [⟨(some 7), none, (.bld [(.int .u64 0), (.int .u64 0)] [])⟩, 
  ⟨(some 8), none, (.bsl 2 1 [(.int .u64 0), (.int .u64 0)] [(0, (2, (.t 7)))])⟩, ⟨(some 3), none, (.mv (.t 8))⟩]) (.seq (.seq (.reg [⟨(some 4), none, (.mv (.k (.int .i64 0)))⟩]) 
  (.block 0 (.loop (.seq (.seq (.reg [⟨(some 9), none, (.mv (.t 4))⟩, ⟨(some 10), none, (.mv (.t 0))⟩, ⟨(some 11), none, (.lenl (.t 10))⟩, 
  ⟨(some 12), none, (.bin .lss (.t 9) (.t 11))⟩]) (.cond (.t 12) .skip (.exit 0))) (.seq (.block 1 (.seq (.reg [⟨(some 15), none, (.mv (.t 3))⟩, ⟨(some 16), none, (.mv (.t 0))⟩, 
  ⟨(some 17), none, (.mv (.t 4))⟩, ⟨(some 18), none, (.ixa 4 (.t 16) (.t 17))⟩, ⟨(some 19), none, (.off 0 (.t 18))⟩, ⟨(some 20), none, (.ld (some 2) (.t 19))⟩, 
  ⟨(some 21), none, (.call f_r03_with [(.t 15), (.t 20)])⟩, ⟨(some 3), none, (.mv (.t 21))⟩]) (.seq (.reg [⟨(some 23), none, (.mv (.t 0))⟩, ⟨(some 24), none, (.mv (.t 4))⟩, 
  ⟨(some 25), none, (.ixa 4 (.t 23) (.t 24))⟩, ⟨(some 26), none, (.off 2 (.t 25))⟩, ⟨(some 27), none, (.ld (some 2) (.t 26))⟩, ⟨(some 28), none, (.call f_r03_next [(.t 27)])⟩, 
  ⟨(some 22), none, (.mv (.t 28))⟩, ⟨(some 29), none, (.ext 0 (.t 22))⟩, ⟨(some 30), none, (.ext 1 (.t 22))⟩, ⟨(some 5), none, (.new [(.int .u64 0), (.int .u64 0)])⟩, 
  ⟨none, none, (.st (some 2) (.t 5) (.t 29))⟩, ⟨(some 6), none, (.mv (.t 30))⟩]) (.seq (.reg [⟨(some 31), none, (.mv (.t 6))⟩]) (.cond (.t 31) 
  (.reg [⟨(some 32), none, (.mv (.t 3))⟩, ⟨(some 33), none, (.ld (some 2) (.t 5))⟩, ⟨(some 34), none, (.call f_r03_with [(.t 32), (.t 33)])⟩, 
  ⟨(some 3), none, (.mv (.t 34))⟩]) .skip))))) (.reg [⟨(some 13), none, (.mv (.t 4))⟩, ⟨(some 14), none, (.bin .add (.t 13) (.k (.int .i64 1)))⟩, 
  ⟨(some 4), none, (.mv (.t 14))⟩])))))) (.seq (.reg [⟨(some 35), none, (.mv (.t 3))⟩, ⟨(some 2), none, (.mv (.t 35))⟩]) .ret))))⟩
theorem c_r03_edges : compF Try.prog ⟨some 71, some 43⟩ Try.f75 = some r_r03_edges := by kernel_rfl
/-- tenancy/tenancyref03.in -/
def r_r03_in : RF :=
  ⟨28, [(.tmp 4)], (.seq (.reg [⟨(some 3), none, (.box (some 2) (.t 1))⟩, ⟨(some 4), none, (.mv (.k (.bool false)))⟩]) (.seq (.seq 
  (.reg [⟨(some 5), none, (.mv (.k (.int .i64 0)))⟩]) (.block 0 (.loop (.seq (.seq (.reg [⟨(some 6), none, (.mv (.t 5))⟩, ⟨(some 7), none, (.mv (.t 0))⟩, 
  ⟨(some 8), none, (.lenl (.t 7))⟩, ⟨(some 9), none, (.bin .lss (.t 6) (.t 8))⟩]) (.cond (.t 9) .skip (.exit 0))) (.seq (.block 1 (.seq 
  (.drw 0 [⟨⟨(some 12), none, (.mv (.t 0))⟩, .pure, [], []⟩, ⟨⟨(some 13), none, (.mv (.t 5))⟩, .pure, [], []⟩, ⟨⟨(some 14), none, (.ixa 4 (.t 12) (.t 13))⟩, .pure, [], []⟩, 
  ⟨⟨(some 15), none, (.off 0 (.t 14))⟩, .pure, [], []⟩, ⟨⟨(some 16), none, (.ld (some 2) (.t 15))⟩, .ld, [], []⟩, ⟨⟨(some 17), none, (.ld (some 2) (.t 3))⟩, .ld, [], []⟩, 
  ⟨⟨(some 18), none, (.call f_r03_le [(.t 16), (.t 17)])⟩, .eff, [], []⟩, ⟨⟨(some 19), none, (.mv (.t 18))⟩, .pure, [], []⟩, 
  ⟨⟨(some 20), (some (19, true)), (.ld (some 2) (.t 3))⟩, .ld, [], []⟩, ⟨⟨(some 21), (some (19, true)), (.mv (.t 0))⟩, .pure, [8], []⟩, 
  ⟨⟨(some 22), (some (19, true)), (.mv (.t 5))⟩, .pure, [8], []⟩, ⟨⟨(some 23), (some (19, true)), (.ixa 4 (.t 21) (.t 22))⟩, .pure, [8], []⟩, 
  ⟨⟨(some 24), (some (19, true)), (.off 2 (.t 23))⟩, .pure, [8], []⟩, ⟨⟨(some 25), (some (19, true)), (.ld (some 2) (.t 24))⟩, .ld, [], []⟩, 
  ⟨⟨(some 26), (some (19, true)), (.call f_r03_le [(.t 20), (.t 25)])⟩, .eff, [], []⟩, ⟨⟨(some 27), none, (.pick (.t 19) (.t 26) (.k (.bool false)))⟩, .pure, [], []⟩]) 
  (.cond (.t 27) (.seq (.reg [⟨(some 4), none, (.mv (.k (.bool true)))⟩]) .ret) .skip))) (.reg [⟨(some 10), none, (.mv (.t 5))⟩, 
  ⟨(some 11), none, (.bin .add (.t 10) (.k (.int .i64 1)))⟩, ⟨(some 5), none, (.mv (.t 11))⟩])))))) (.seq (.reg [⟨(some 4), none, (.mv (.k (.bool false)))⟩]) .ret)))⟩
theorem c_r03_in : compF Try.prog ⟨some 71, some 43⟩ Try.f76 = some r_r03_in := by kernel_rfl
/-- math/bits.Len64 -/
def r_bits_Len64 : RF :=
  ⟨25, [(.tmp 2)], (.seq (.reg [⟨(some 2), none, (.mv (.k (.int .i64 0)))⟩]) (.seq (.seq (.reg [⟨(some 3), none, (.mv (.t 0))⟩, 
  ⟨(some 4), none, (.bin .geq (.t 3) (.k (.int .u64 4294967296)))⟩]) (.cond (.t 4) (.seq (.reg [⟨(some 5), none, (.mv (.t 0))⟩, 
  ⟨(some 6), none, (.bin .shr (.t 5) (.k (.int .u64 32)))⟩, ⟨(some 0), none, (.mv (.t 6))⟩]) (.reg [⟨(some 2), none, (.mv (.k (.int .i64 32)))⟩])) .skip)) (.seq (.seq 
  (.reg [⟨(some 7), none, (.mv (.t 0))⟩, ⟨(some 8), none, (.bin .geq (.t 7) (.k (.int .u64 65536)))⟩]) (.cond (.t 8) (.seq (.reg [⟨(some 9), none, (.mv (.t 0))⟩, 
  ⟨(some 10), none, (.bin .shr (.t 9) (.k (.int .u64 16)))⟩, ⟨(some 0), none, (.mv (.t 10))⟩]) (.reg [⟨(some 11), none, (.mv (.t 2))⟩, 
  ⟨(some 12), none, (.bin .add (.t 11) (.k (.int .i64 16)))⟩, ⟨(some 2), none, (.mv (.t 12))⟩])) .skip)) (.seq (.seq (.reg [⟨(some 13), none, (.mv (.t 0))⟩, 
  ⟨(some 14), none, (.bin .geq (.t 13) (.k (.int .u64 256)))⟩]) (.cond (.t 14) (.seq (.reg [⟨(some 15), none, (.mv (.t 0))⟩, 
  ⟨(some 16), none, (.bin .shr (.t 15) (.k (.int .u64 8)))⟩, ⟨(some 0), none, (.mv (.t 16))⟩]) (.reg [⟨(some 17), none, (.mv (.t 2))⟩, 
  ⟨(some 18), none, (.bin .add (.t 17) (.k (.int .i64 8)))⟩, ⟨(some 2), none, (.mv (.t 18))⟩])) .skip)) (.seq (.reg [⟨(some 19), none, (.mv (.t 2))⟩, 
  ⟨(some 20), none, (.mv (.t 0))⟩, ⟨(some 21), none, (.cvi .u8 (.t 20))⟩, 
  ⟨(some 22), none, (.ixs (.k (.str (bts [0, 1, 2, 2, 3, 3, 3, 3, 4, 4, 4, 4, 4, 4, 4, 4, 5, 5, 5, 5, 5, 5, 5, 5, 5, 5, 5, 5, 5, 5, 5, 5, 6, 6, 6, 6, 6, 6, 6, 6, 6, 6, 6, 6, 6, 6, 6, 6, 6, 6, 6, 6, 6, 6, 6, 6, 6, 6, 6, 6, 6, 6, 6, 6, 7, 7, 7, 7, 7, 7, 7, 7, 7, 7, 7, 7, 7, 7, 7, 7, 7, 7, 7, 7, 7, 7, 7, 7, 7, 7, 7, 7, 7, 7, 7, 7, 7, 7, 7, 7, 7, 7, 7, 7, 7, 7, 7, 7, 7, 7, 7, 7, 7, 7, 7, 7, 7, 7, 7, 7, 7, 7, 7, 7, 7, 7, 7, 7, 8, 8, 8, 8, 8, 8, 8, 8, 8, 8, 8, 8, 8, 8, 8, 8, 8, 8, 8, 8, 8, 8, 8, 8, 8, 8, 8, 8, 8, 8, 8, 8, 8, 8, 8, 8, 8, 8, 8, 8, 8, 8, 8, 8, 8, 8, 8, 8, 8, 8, 8, 8, 8, 8, 8, 8, 8, 8, 8, 8, 8, 8, 8, 8, 8, 8, 8, 8, 8, 8, 8, 8, 8, 8, 8, 8, 8, 8, 8, 8, 8, 8, 8, 8, 8, 8, 8, 8, 8, 8, 8, 8, 8, 8, 8, 8, 8, 8, 8, 8, 8, 8, 8, 8, 8, 8, 8, 8, 8, 8, 8, 8, 8, 8, 8, 8, 8, 8, 8, 8, 8, 8, 8, 8, 8, 8, 8, 8]))) (.t 21))⟩, 
  ⟨(some 23), none, (.cvi .i64 (.t 22))⟩, ⟨(some 24), none, (.bin .add (.t 19) (.t 23))⟩, ⟨(some 2), none, (.mv (.t 24))⟩]) .ret)))))⟩
theorem c_bits_Len64 : compF Try.prog ⟨some 71, some 43⟩ Try.f77 = some r_bits_Len64 := by kernel_rfl
/-- slices.insertionSortCmpFunc[tenancy/api.Addr] -/
def r_slices_insertionSortCmpFunc_Addr : RF :=
  ⟨53, [], (.seq (.reg [⟨(some 10), none, (.mv (.t 1))⟩, ⟨(some 11), none, (.bin .add (.t 10) (.k (.int .i64 1)))⟩, ⟨(some 8), none, (.mv (.t 11))⟩]) (.block 0 (.loop (.seq (.seq 
  (.reg [⟨(some 12), none, (.mv (.t 8))⟩, ⟨(some 13), none, (.mv (.t 2))⟩, ⟨(some 14), none, (.bin .lss (.t 12) (.t 13))⟩]) (.cond (.t 14) .skip (.exit 0))) (.seq (.block 1 (.seq 
  (.reg [⟨(some 17), none, (.mv (.t 8))⟩, ⟨(some 9), none, (.mv (.t 17))⟩]) (.block 2 (.loop (.seq (.seq (.drw 0 [⟨⟨(some 18), none, (.mv (.t 9))⟩, .pure, [], []⟩, 
  ⟨⟨(some 19), none, (.mv (.t 1))⟩, .pure, [], []⟩, ⟨⟨(some 20), none, (.bin .gtr (.t 18) (.t 19))⟩, .pure, [], []⟩, ⟨⟨(some 21), none, (.mv (.t 20))⟩, .pure, [], []⟩, 
  ⟨⟨(some 22), (some (21, true)), (.mv (.t 3))⟩, .pure, [], []⟩, ⟨⟨(some 23), (some (21, true)), (.mv (.t 0))⟩, .pure, [], []⟩, 
  ⟨⟨(some 24), (some (21, true)), (.mv (.t 9))⟩, .pure, [], []⟩, ⟨⟨(some 25), (some (21, true)), (.ixa 2 (.t 23) (.t 24))⟩, .pure, [], []⟩, 
  ⟨⟨(some 26), (some (21, true)), (.ld (some 2) (.t 25))⟩, .ld, [], []⟩, ⟨⟨(some 27), (some (21, true)), (.mv (.t 0))⟩, .pure, [8], []⟩, 
  ⟨⟨(some 28), (some (21, true)), (.mv (.t 9))⟩, .pure, [8], []⟩, ⟨⟨(some 29), (some (21, true)), (.bin .sub (.t 28) (.k (.int .i64 1)))⟩, .pure, [8], []⟩, 
  ⟨⟨(some 30), (some (21, true)), (.ixa 2 (.t 27) (.t 29))⟩, .pure, [8], []⟩, ⟨⟨(some 31), (some (21, true)), (.ld (some 2) (.t 30))⟩, .ld, [], []⟩, 
  ⟨⟨(some 32), (some (21, true)), (.calld (.t 22) [(.t 26), (.t 31)])⟩, .eff, [], []⟩, ⟨⟨(some 33), (some (21, true)), (.bin .lss (.t 32) (.k (.int .i64 0)))⟩, .pure, [], []⟩, 
  ⟨⟨(some 34), none, (.pick (.t 21) (.t 33) (.k (.bool false)))⟩, .pure, [], []⟩]) (.cond (.t 34) .skip (.exit 2))) (.seq (.block 3 
  (.drw 0 [⟨⟨(some 37), none, (.mv (.t 0))⟩, .pure, [], []⟩, ⟨⟨(some 38), none, (.mv (.t 9))⟩, .pure, [], []⟩, ⟨⟨(some 39), none, (.mv (.t 0))⟩, .pure, [], []⟩, 
  ⟨⟨(some 40), none, (.mv (.t 9))⟩, .pure, [], []⟩, ⟨⟨(some 41), none, (.bin .sub (.t 40) (.k (.int .i64 1)))⟩, .pure, [], []⟩, ⟨⟨(some 42), none, (.mv (.t 0))⟩, .pure, [], []⟩, 
  ⟨⟨(some 43), none, (.mv (.t 9))⟩, .pure, [], []⟩, ⟨⟨(some 44), none, (.bin .sub (.t 43) (.k (.int .i64 1)))⟩, .pure, [], []⟩, 
  ⟨⟨(some 45), none, (.ixa 2 (.t 42) (.t 44))⟩, .pure, [], []⟩, ⟨⟨(some 46), none, (.ld (some 2) (.t 45))⟩, .ld, [], []⟩, ⟨⟨(some 47), none, (.mv (.t 0))⟩, .pure, [9], []⟩, 
  ⟨⟨(some 48), none, (.mv (.t 9))⟩, .pure, [9], []⟩, ⟨⟨(some 49), none, (.ixa 2 (.t 47) (.t 48))⟩, .pure, [9], []⟩, ⟨⟨(some 50), none, (.ld (some 2) (.t 49))⟩, .ld, [], []⟩, 
  ⟨⟨(some 51), none, (.ixa 2 (.t 37) (.t 38))⟩, .pure, [], []⟩, ⟨⟨none, none, (.st (some 2) (.t 51) (.t 46))⟩, .eff, [], []⟩, 
  ⟨⟨(some 52), none, (.ixa 2 (.t 39) (.t 41))⟩, .pure, [], []⟩, ⟨⟨none, none, (.st (some 2) (.t 52) (.t 50))⟩, .eff, [], []⟩])) (.reg [⟨(some 35), none, (.mv (.t 9))⟩, 
  ⟨(some 36), none, (.bin .sub (.t 35) (.k (.int .i64 1)))⟩, ⟨(some 9), none, (.mv (.t 36))⟩]))))))) (.reg [⟨(some 15), none, (.mv (.t 8))⟩, 
  ⟨(some 16), none, (.bin .add (.t 15) (.k (.int .i64 1)))⟩, ⟨(some 8), none, (.mv (.t 16))⟩]))))))⟩
theorem c_slices_insertionSortCmpFunc_Addr : compF Try.prog ⟨some 71, some 43⟩ Try.f78 = some r_slices_insertionSortCmpFunc_Addr := by kernel_rfl
/-- slices.heapSortCmpFunc[tenancy/api.Addr] -/
def r_slices_heapSortCmpFunc_Addr : RF :=
  ⟨60, [], (.seq (.reg [⟨(some 13), none, (.mv (.t 1))⟩, ⟨(some 8), none, (.mv (.t 13))⟩]) (.seq (.reg [⟨(some 9), none, (.mv (.k (.int .i64 0)))⟩]) (.seq 
  (.reg [⟨(some 14), none, (.mv (.t 2))⟩, ⟨(some 15), none, (.mv (.t 1))⟩, ⟨(some 16), none, (.bin .sub (.t 14) (.t 15))⟩, ⟨(some 10), none, (.mv (.t 16))⟩]) (.seq (.seq 
  (.reg [⟨(some 17), none, (.mv (.t 10))⟩, ⟨(some 18), none, (.bin .sub (.t 17) (.k (.int .i64 1)))⟩, ⟨(some 19), none, (.bin .quo (.t 18) (.k (.int .i64 2)))⟩, 
  ⟨(some 11), none, (.mv (.t 19))⟩]) (.block 0 (.loop (.seq (.seq (.reg [⟨(some 20), none, (.mv (.t 11))⟩, ⟨(some 21), none, (.bin .geq (.t 20) (.k (.int .i64 0)))⟩]) 
  (.cond (.t 21) .skip (.exit 0))) (.seq (.block 1 (.reg [⟨(some 24), none, (.mv (.t 0))⟩, ⟨(some 25), none, (.mv (.t 11))⟩, ⟨(some 26), none, (.mv (.t 10))⟩, 
  ⟨(some 27), none, (.mv (.t 8))⟩, ⟨(some 28), none, (.mv (.t 3))⟩, ⟨(some 29), none, (.call f_slices_siftDownCmpFunc_Addr [(.t 24), (.t 25), (.t 26), (.t 27), (.t 28)])⟩])) 
  (.reg [⟨(some 22), none, (.mv (.t 11))⟩, ⟨(some 23), none, (.bin .sub (.t 22) (.k (.int .i64 1)))⟩, ⟨(some 11), none, (.mv (.t 23))⟩])))))) (.seq 
  (.reg [⟨(some 30), none, (.mv (.t 10))⟩, ⟨(some 31), none, (.bin .sub (.t 30) (.k (.int .i64 1)))⟩, ⟨(some 12), none, (.mv (.t 31))⟩]) (.block 2 (.loop (.seq (.seq 
  (.reg [⟨(some 32), none, (.mv (.t 12))⟩, ⟨(some 33), none, (.bin .geq (.t 32) (.k (.int .i64 0)))⟩]) (.cond (.t 33) .skip (.exit 2))) (.seq (.block 3 (.seq 
  (.drw 0 [⟨⟨(some 36), none, (.mv (.t 0))⟩, .pure, [], []⟩, ⟨⟨(some 37), none, (.mv (.t 8))⟩, .pure, [], []⟩, ⟨⟨(some 38), none, (.mv (.t 0))⟩, .pure, [], []⟩, 
  ⟨⟨(some 39), none, (.mv (.t 8))⟩, .pure, [], []⟩, ⟨⟨(some 40), none, (.mv (.t 12))⟩, .pure, [], []⟩, ⟨⟨(some 41), none, (.bin .add (.t 39) (.t 40))⟩, .pure, [], []⟩, 
  ⟨⟨(some 42), none, (.mv (.t 0))⟩, .pure, [], []⟩, ⟨⟨(some 43), none, (.mv (.t 8))⟩, .pure, [], []⟩, ⟨⟨(some 44), none, (.mv (.t 12))⟩, .pure, [], []⟩, 
  ⟨⟨(some 45), none, (.bin .add (.t 43) (.t 44))⟩, .pure, [], []⟩, ⟨⟨(some 46), none, (.ixa 2 (.t 42) (.t 45))⟩, .pure, [], []⟩, 
  ⟨⟨(some 47), none, (.ld (some 2) (.t 46))⟩, .ld, [], []⟩, ⟨⟨(some 48), none, (.mv (.t 0))⟩, .pure, [11], []⟩, ⟨⟨(some 49), none, (.mv (.t 8))⟩, .pure, [11], []⟩, 
  ⟨⟨(some 50), none, (.ixa 2 (.t 48) (.t 49))⟩, .pure, [11], []⟩, ⟨⟨(some 51), none, (.ld (some 2) (.t 50))⟩, .ld, [], []⟩, 
  ⟨⟨(some 52), none, (.ixa 2 (.t 36) (.t 37))⟩, .pure, [], []⟩, ⟨⟨none, none, (.st (some 2) (.t 52) (.t 47))⟩, .eff, [], []⟩, 
  ⟨⟨(some 53), none, (.ixa 2 (.t 38) (.t 41))⟩, .pure, [], []⟩, ⟨⟨none, none, (.st (some 2) (.t 53) (.t 51))⟩, .eff, [], []⟩]) (.reg [⟨(some 54), none, (.mv (.t 0))⟩, 
  ⟨(some 55), none, (.mv (.t 9))⟩, ⟨(some 56), none, (.mv (.t 12))⟩, ⟨(some 57), none, (.mv (.t 8))⟩, ⟨(some 58), none, (.mv (.t 3))⟩, 
  ⟨(some 59), none, (.call f_slices_siftDownCmpFunc_Addr [(.t 54), (.t 55), (.t 56), (.t 57), (.t 58)])⟩]))) (.reg [⟨(some 34), none, (.mv (.t 12))⟩, 
  ⟨(some 35), none, (.bin .sub (.t 34) (.k (.int .i64 1)))⟩, ⟨(some 12), none, (.mv (.t 35))⟩]))))))))))⟩
theorem c_slices_heapSortCmpFunc_Addr : compF Try.prog ⟨some 71, some 43⟩ Try.f79 = some r_slices_heapSortCmpFunc_Addr := by kernel_rfl
/-- slices.breakPatternsCmpFunc[tenancy/api.Addr] -/
def r_slices_breakPatternsCmpFunc_Addr : RF :=
  ⟨67, [], (.seq (.reg [⟨(some 13), none, (.mv (.t 2))⟩, ⟨(some 14), none, (.mv (.t 1))⟩, ⟨(some 15), none, (.bin .sub (.t 13) (.t 14))⟩, ⟨(some 8), none, (.mv (.t 15))⟩]) (.seq 
  (.reg [⟨(some 16), none, (.mv (.t 8))⟩, ⟨(some 17), none, (.bin .geq (.t 16) (.k (.int .i64 8)))⟩]) (.cond (.t 17) (.seq (.reg [⟨(some 18), none, (.mv (.t 8))⟩, 
  ⟨(some 19), none, (.cvi .u64 (.t 18))⟩, ⟨(some 9), none, (.new [(.int .u64 0)])⟩, ⟨none, none, (.st none (.t 9) (.t 19))⟩]) (.seq (.reg [⟨(some 20), none, (.mv (.t 8))⟩, 
  ⟨(some 21), none, (.call f_slices_nextPowerOfTwo [(.t 20)])⟩, ⟨(some 10), none, (.mv (.t 21))⟩]) (.seq (.reg [⟨(some 22), none, (.mv (.t 1))⟩, ⟨(some 23), none, (.mv (.t 8))⟩, 
  ⟨(some 24), none, (.bin .quo (.t 23) (.k (.int .i64 4)))⟩, ⟨(some 25), none, (.bin .mul (.t 24) (.k (.int .i64 2)))⟩, ⟨(some 26), none, (.bin .add (.t 22) (.t 25))⟩, 
  ⟨(some 27), none, (.bin .sub (.t 26) (.k (.int .i64 1)))⟩, ⟨(some 11), none, (.mv (.t 27))⟩]) (.block 0 (.loop (.seq (.seq (.reg [⟨(some 28), none, (.mv (.t 11))⟩, 
  ⟨(some 29), none, (.mv (.t 1))⟩, ⟨(some 30), none, (.mv (.t 8))⟩, ⟨(some 31), none, (.bin .quo (.t 30) (.k (.int .i64 4)))⟩, 
  ⟨(some 32), none, (.bin .mul (.t 31) (.k (.int .i64 2)))⟩, ⟨(some 33), none, (.bin .add (.t 29) (.t 32))⟩, ⟨(some 34), none, (.bin .add (.t 33) (.k (.int .i64 1)))⟩, 
  ⟨(some 35), none, (.bin .leq (.t 28) (.t 34))⟩]) (.cond (.t 35) .skip (.exit 0))) (.seq (.block 1 (.seq (.reg [⟨(some 38), none, (.call f_slices_xorshift_Next [(.t 9)])⟩, 
  ⟨(some 39), none, (.mv (.t 10))⟩, ⟨(some 40), none, (.bin .sub (.t 39) (.k (.int .u64 1)))⟩, ⟨(some 41), none, (.bin .and (.t 38) (.t 40))⟩, 
  ⟨(some 42), none, (.cvi .i64 (.t 41))⟩, ⟨(some 12), none, (.mv (.t 42))⟩]) (.seq (.seq (.reg [⟨(some 43), none, (.mv (.t 12))⟩, ⟨(some 44), none, (.mv (.t 8))⟩, 
  ⟨(some 45), none, (.bin .geq (.t 43) (.t 44))⟩]) (.cond (.t 45) (.reg [⟨(some 46), none, (.mv (.t 12))⟩, ⟨(some 47), none, (.mv (.t 8))⟩, 
  ⟨(some 48), none, (.bin .sub (.t 46) (.t 47))⟩, ⟨(some 12), none, (.mv (.t 48))⟩]) .skip)) (.drw 0 [⟨⟨(some 49), none, (.mv (.t 0))⟩, .pure, [], []⟩, 
  ⟨⟨(some 50), none, (.mv (.t 11))⟩, .pure, [], []⟩, ⟨⟨(some 51), none, (.mv (.t 0))⟩, .pure, [], []⟩, ⟨⟨(some 52), none, (.mv (.t 1))⟩, .pure, [], []⟩, 
  ⟨⟨(some 53), none, (.mv (.t 12))⟩, .pure, [], []⟩, ⟨⟨(some 54), none, (.bin .add (.t 52) (.t 53))⟩, .pure, [], []⟩, ⟨⟨(some 55), none, (.mv (.t 0))⟩, .pure, [], []⟩, 
  ⟨⟨(some 56), none, (.mv (.t 1))⟩, .pure, [], []⟩, ⟨⟨(some 57), none, (.mv (.t 12))⟩, .pure, [], []⟩, ⟨⟨(some 58), none, (.bin .add (.t 56) (.t 57))⟩, .pure, [], []⟩, 
  ⟨⟨(some 59), none, (.ixa 2 (.t 55) (.t 58))⟩, .pure, [], []⟩, ⟨⟨(some 60), none, (.ld (some 2) (.t 59))⟩, .ld, [], []⟩, ⟨⟨(some 61), none, (.mv (.t 0))⟩, .pure, [11], []⟩, 
  ⟨⟨(some 62), none, (.mv (.t 11))⟩, .pure, [11], []⟩, ⟨⟨(some 63), none, (.ixa 2 (.t 61) (.t 62))⟩, .pure, [11], []⟩, ⟨⟨(some 64), none, (.ld (some 2) (.t 63))⟩, .ld, [], []⟩, 
  ⟨⟨(some 65), none, (.ixa 2 (.t 49) (.t 50))⟩, .pure, [], []⟩, ⟨⟨none, none, (.st (some 2) (.t 65) (.t 60))⟩, .eff, [], []⟩, 
  ⟨⟨(some 66), none, (.ixa 2 (.t 51) (.t 54))⟩, .pure, [], []⟩, ⟨⟨none, none, (.st (some 2) (.t 66) (.t 64))⟩, .eff, [], []⟩])))) (.reg [⟨(some 36), none, (.mv (.t 11))⟩, 
  ⟨(some 37), none, (.bin .add (.t 36) (.k (.int .i64 1)))⟩, ⟨(some 11), none, (.mv (.t 37))⟩])))))))) .skip)))⟩
theorem c_slices_breakPatternsCmpFunc_Addr : compF Try.prog ⟨some 71, some 43⟩ Try.f80 = some r_slices_breakPatternsCmpFunc_Addr := by kernel_rfl
/-- slices.choosePivotCmpFunc[tenancy/api.Addr] -/
def r_slices_choosePivotCmpFunc_Addr : RF :=
  ⟨63, [(.tmp 8), (.tmp 9)], (.seq (.reg [⟨(some 8), none, (.mv (.k (.int .i64 0)))⟩, ⟨(some 9), none, (.mv (.k (.int .i64 0)))⟩]) (.seq (.reg [⟨(some 15), none, (.mv (.t 2))⟩, 
  ⟨(some 16), none, (.mv (.t 1))⟩, ⟨(some 17), none, (.bin .sub (.t 15) (.t 16))⟩, ⟨(some 10), none, (.mv (.t 17))⟩]) (.seq (.reg [⟨(some 11), none, (.new [(.int .i64 0)])⟩]) (.seq 
  (.reg [⟨(some 18), none, (.mv (.t 1))⟩, ⟨(some 19), none, (.mv (.t 10))⟩, ⟨(some 20), none, (.bin .quo (.t 19) (.k (.int .i64 4)))⟩, 
  ⟨(some 21), none, (.bin .mul (.t 20) (.k (.int .i64 1)))⟩, ⟨(some 22), none, (.bin .add (.t 18) (.t 21))⟩, ⟨(some 12), none, (.mv (.t 22))⟩]) (.seq 
  (.reg [⟨(some 23), none, (.mv (.t 1))⟩, ⟨(some 24), none, (.mv (.t 10))⟩, ⟨(some 25), none, (.bin .quo (.t 24) (.k (.int .i64 4)))⟩, 
  ⟨(some 26), none, (.bin .mul (.t 25) (.k (.int .i64 2)))⟩, ⟨(some 27), none, (.bin .add (.t 23) (.t 26))⟩, ⟨(some 13), none, (.mv (.t 27))⟩]) (.seq 
  (.reg [⟨(some 28), none, (.mv (.t 1))⟩, ⟨(some 29), none, (.mv (.t 10))⟩, ⟨(some 30), none, (.bin .quo (.t 29) (.k (.int .i64 4)))⟩, 
  ⟨(some 31), none, (.bin .mul (.t 30) (.k (.int .i64 3)))⟩, ⟨(some 32), none, (.bin .add (.t 28) (.t 31))⟩, ⟨(some 14), none, (.mv (.t 32))⟩]) (.seq (.seq 
  (.reg [⟨(some 33), none, (.mv (.t 10))⟩, ⟨(some 34), none, (.bin .geq (.t 33) (.k (.int .i64 8)))⟩]) (.cond (.t 34) (.seq (.seq (.reg [⟨(some 35), none, (.mv (.t 10))⟩, 
  ⟨(some 36), none, (.bin .geq (.t 35) (.k (.int .i64 50)))⟩]) (.cond (.t 36) (.seq (.reg [⟨(some 37), none, (.mv (.t 0))⟩, ⟨(some 38), none, (.mv (.t 12))⟩, 
  ⟨(some 39), none, (.mv (.t 3))⟩, ⟨(some 40), none, (.call f_slices_medianAdjacentCmpFunc_Addr [(.t 37), (.t 38), (.t 11), (.t 39)])⟩, ⟨(some 12), none, (.mv (.t 40))⟩]) (.seq 
  (.reg [⟨(some 41), none, (.mv (.t 0))⟩, ⟨(some 42), none, (.mv (.t 13))⟩, ⟨(some 43), none, (.mv (.t 3))⟩, 
  ⟨(some 44), none, (.call f_slices_medianAdjacentCmpFunc_Addr [(.t 41), (.t 42), (.t 11), (.t 43)])⟩, ⟨(some 13), none, (.mv (.t 44))⟩]) (.reg [⟨(some 45), none, (.mv (.t 0))⟩, 
  ⟨(some 46), none, (.mv (.t 14))⟩, ⟨(some 47), none, (.mv (.t 3))⟩, ⟨(some 48), none, (.call f_slices_medianAdjacentCmpFunc_Addr [(.t 45), (.t 46), (.t 11), (.t 47)])⟩, 
  ⟨(some 14), none, (.mv (.t 48))⟩]))) .skip)) (.reg [⟨(some 49), none, (.mv (.t 0))⟩, ⟨(some 50), none, (.mv (.t 12))⟩, ⟨(some 51), none, (.mv (.t 13))⟩, 
  ⟨(some 52), none, (.mv (.t 14))⟩, ⟨(some 53), none, (.mv (.t 3))⟩, ⟨(some 54), none, (.call f_slices_medianCmpFunc_Addr [(.t 49), (.t 50), (.t 51), (.t 52), (.t 11), (.t 53)])⟩, 
  ⟨(some 13), none, (.mv (.t 54))⟩])) .skip)) (.seq (.reg [⟨(some 55), none, (.ld none (.t 11))⟩]) (.block 0 (.seq 
  (.reg [⟨(some 58), none, (.eq false .i (.t 55) (.k (.int .i64 0)))⟩, ⟨(some 57), none, (.mv (.t 58))⟩]) (.cond (.t 57) (.seq (.reg [⟨(some 59), none, (.mv (.t 13))⟩, 
  ⟨(some 8), none, (.mv (.t 59))⟩, ⟨(some 9), none, (.mv (.k (.int .i64 1)))⟩]) .ret) (.seq (.reg [⟨(some 61), none, (.eq false .i (.t 55) (.k (.int .i64 12)))⟩, 
  ⟨(some 60), none, (.mv (.t 61))⟩]) (.cond (.t 60) (.seq (.reg [⟨(some 62), none, (.mv (.t 13))⟩, ⟨(some 8), none, (.mv (.t 62))⟩, 
  ⟨(some 9), none, (.mv (.k (.int .i64 2)))⟩]) .ret) (.seq (.reg [⟨(some 56), none, (.mv (.t 13))⟩, ⟨(some 8), none, (.mv (.t 56))⟩, 
  ⟨(some 9), none, (.mv (.k (.int .i64 0)))⟩]) .ret))))))))))))))⟩
theorem c_slices_choosePivotCmpFunc_Addr : compF Try.prog ⟨some 71, some 43⟩ Try.f81 = some r_slices_choosePivotCmpFunc_Addr := by kernel_rfl
/-- slices.reverseRangeCmpFunc[tenancy/api.Addr] -/
def r_slices_reverseRangeCmpFunc_Addr : RF :=
  ⟨34, [], (.seq (.reg [⟨(some 10), none, (.mv (.t 1))⟩, ⟨(some 8), none, (.mv (.t 10))⟩]) (.seq (.reg [⟨(some 11), none, (.mv (.t 2))⟩, 
  ⟨(some 12), none, (.bin .sub (.t 11) (.k (.int .i64 1)))⟩, ⟨(some 9), none, (.mv (.t 12))⟩]) (.block 0 (.loop (.seq (.seq (.reg [⟨(some 13), none, (.mv (.t 8))⟩, 
  ⟨(some 14), none, (.mv (.t 9))⟩, ⟨(some 15), none, (.bin .lss (.t 13) (.t 14))⟩]) (.cond (.t 15) .skip (.exit 0))) (.block 1 (.seq 
  (.drw 0 [⟨⟨(some 16), none, (.mv (.t 0))⟩, .pure, [], []⟩, ⟨⟨(some 17), none, (.mv (.t 8))⟩, .pure, [], []⟩, ⟨⟨(some 18), none, (.mv (.t 0))⟩, .pure, [], []⟩, 
  ⟨⟨(some 19), none, (.mv (.t 9))⟩, .pure, [], []⟩, ⟨⟨(some 20), none, (.mv (.t 0))⟩, .pure, [], []⟩, ⟨⟨(some 21), none, (.mv (.t 9))⟩, .pure, [], []⟩, 
  ⟨⟨(some 22), none, (.ixa 2 (.t 20) (.t 21))⟩, .pure, [], []⟩, ⟨⟨(some 23), none, (.ld (some 2) (.t 22))⟩, .ld, [], []⟩, ⟨⟨(some 24), none, (.mv (.t 0))⟩, .pure, [7], []⟩, 
  ⟨⟨(some 25), none, (.mv (.t 8))⟩, .pure, [7], []⟩, ⟨⟨(some 26), none, (.ixa 2 (.t 24) (.t 25))⟩, .pure, [7], []⟩, ⟨⟨(some 27), none, (.ld (some 2) (.t 26))⟩, .ld, [], []⟩, 
  ⟨⟨(some 28), none, (.ixa 2 (.t 16) (.t 17))⟩, .pure, [], []⟩, ⟨⟨none, none, (.st (some 2) (.t 28) (.t 23))⟩, .eff, [], []⟩, 
  ⟨⟨(some 29), none, (.ixa 2 (.t 18) (.t 19))⟩, .pure, [], []⟩, ⟨⟨none, none, (.st (some 2) (.t 29) (.t 27))⟩, .eff, [], []⟩]) (.seq (.reg [⟨(some 30), none, (.mv (.t 8))⟩, 
  ⟨(some 31), none, (.bin .add (.t 30) (.k (.int .i64 1)))⟩, ⟨(some 8), none, (.mv (.t 31))⟩]) (.reg [⟨(some 32), none, (.mv (.t 9))⟩, 
  ⟨(some 33), none, (.bin .sub (.t 32) (.k (.int .i64 1)))⟩, ⟨(some 9), none, (.mv (.t 33))⟩])))))))))⟩
theorem c_slices_reverseRangeCmpFunc_Addr : compF Try.prog ⟨some 71, some 43⟩ Try.f82 = some r_slices_reverseRangeCmpFunc_Addr := by kernel_rfl
/-- slices.partialInsertionSortCmpFunc[tenancy/api.Addr] -/
def r_slices_partialInsertionSortCmpFunc_Addr : RF :=
  ⟨141, [(.tmp 8)], (.seq (.reg [⟨(some 8), none, (.mv (.k (.bool false)))⟩]) (.seq (.reg [⟨(some 13), none, (.mv (.t 1))⟩, 
  ⟨(some 14), none, (.bin .add (.t 13) (.k (.int .i64 1)))⟩, ⟨(some 9), none, (.mv (.t 14))⟩]) (.seq (.seq (.reg [⟨(some 10), none, (.mv (.k (.int .i64 0)))⟩]) (.block 0 (.loop 
  (.seq (.seq (.reg [⟨(some 15), none, (.mv (.t 10))⟩, ⟨(some 16), none, (.bin .lss (.t 15) (.k (.int .i64 5)))⟩]) (.cond (.t 16) .skip (.exit 0))) (.seq (.block 1 (.seq (.block 2 
  (.loop (.seq (.seq (.drw 0 [⟨⟨(some 19), none, (.mv (.t 9))⟩, .pure, [], []⟩, ⟨⟨(some 20), none, (.mv (.t 2))⟩, .pure, [], []⟩, 
  ⟨⟨(some 21), none, (.bin .lss (.t 19) (.t 20))⟩, .pure, [], []⟩, ⟨⟨(some 22), none, (.mv (.t 21))⟩, .pure, [], []⟩, ⟨⟨(some 23), (some (22, true)), (.mv (.t 3))⟩, .pure, [], []⟩, 
  ⟨⟨(some 24), (some (22, true)), (.mv (.t 0))⟩, .pure, [], []⟩, ⟨⟨(some 25), (some (22, true)), (.mv (.t 9))⟩, .pure, [], []⟩, 
  ⟨⟨(some 26), (some (22, true)), (.ixa 2 (.t 24) (.t 25))⟩, .pure, [], []⟩, ⟨⟨(some 27), (some (22, true)), (.ld (some 2) (.t 26))⟩, .ld, [], []⟩, 
  ⟨⟨(some 28), (some (22, true)), (.mv (.t 0))⟩, .pure, [8], []⟩, ⟨⟨(some 29), (some (22, true)), (.mv (.t 9))⟩, .pure, [8], []⟩, 
  ⟨⟨(some 30), (some (22, true)), (.bin .sub (.t 29) (.k (.int .i64 1)))⟩, .pure, [8], []⟩, ⟨⟨(some 31), (some (22, true)), (.ixa 2 (.t 28) (.t 30))⟩, .pure, [8], []⟩, 
  ⟨⟨(some 32), (some (22, true)), (.ld (some 2) (.t 31))⟩, .ld, [], []⟩, ⟨⟨(some 33), (some (22, true)), (.calld (.t 23) [(.t 27), (.t 32)])⟩, .eff, [], []⟩, 
  ⟨⟨(some 34), (some (22, true)), (.bin .lss (.t 33) (.k (.int .i64 0)))⟩, .pure, [], []⟩, ⟨⟨(some 35), (some (22, true)), (.un .not (.t 34))⟩, .pure, [], []⟩, 
  ⟨⟨(some 36), none, (.pick (.t 22) (.t 35) (.k (.bool false)))⟩, .pure, [], []⟩]) (.cond (.t 36) .skip (.exit 2))) (.block 3 (.reg [⟨(some 37), none, (.mv (.t 9))⟩, 
  ⟨(some 38), none, (.bin .add (.t 37) (.k (.int .i64 1)))⟩, ⟨(some 9), none, (.mv (.t 38))⟩]))))) (.seq (.seq (.reg [⟨(some 39), none, (.mv (.t 9))⟩, 
  ⟨(some 40), none, (.mv (.t 2))⟩, ⟨(some 41), none, (.eq false .i (.t 39) (.t 40))⟩]) (.cond (.t 41) (.seq (.reg [⟨(some 8), none, (.mv (.k (.bool true)))⟩]) .ret) .skip)) (.seq 
  (.seq (.reg [⟨(some 42), none, (.mv (.t 2))⟩, ⟨(some 43), none, (.mv (.t 1))⟩, ⟨(some 44), none, (.bin .sub (.t 42) (.t 43))⟩, 
  ⟨(some 45), none, (.bin .lss (.t 44) (.k (.int .i64 50)))⟩]) (.cond (.t 45) (.seq (.reg [⟨(some 8), none, (.mv (.k (.bool false)))⟩]) .ret) .skip)) (.seq 
  (.drw 0 [⟨⟨(some 46), none, (.mv (.t 0))⟩, .pure, [], []⟩, ⟨⟨(some 47), none, (.mv (.t 9))⟩, .pure, [], []⟩, ⟨⟨(some 48), none, (.mv (.t 0))⟩, .pure, [], []⟩, 
  ⟨⟨(some 49), none, (.mv (.t 9))⟩, .pure, [], []⟩, ⟨⟨(some 50), none, (.bin .sub (.t 49) (.k (.int .i64 1)))⟩, .pure, [], []⟩, ⟨⟨(some 51), none, (.mv (.t 0))⟩, .pure, [], []⟩, 
  ⟨⟨(some 52), none, (.mv (.t 9))⟩, .pure, [], []⟩, ⟨⟨(some 53), none, (.bin .sub (.t 52) (.k (.int .i64 1)))⟩, .pure, [], []⟩, 
  ⟨⟨(some 54), none, (.ixa 2 (.t 51) (.t 53))⟩, .pure, [], []⟩, ⟨⟨(some 55), none, (.ld (some 2) (.t 54))⟩, .ld, [], []⟩, ⟨⟨(some 56), none, (.mv (.t 0))⟩, .pure, [9], []⟩, 
  ⟨⟨(some 57), none, (.mv (.t 9))⟩, .pure, [9], []⟩, ⟨⟨(some 58), none, (.ixa 2 (.t 56) (.t 57))⟩, .pure, [9], []⟩, ⟨⟨(some 59), none, (.ld (some 2) (.t 58))⟩, .ld, [], []⟩, 
  ⟨⟨(some 60), none, (.ixa 2 (.t 46) (.t 47))⟩, .pure, [], []⟩, ⟨⟨none, none, (.st (some 2) (.t 60) (.t 55))⟩, .eff, [], []⟩, 
  ⟨⟨(some 61), none, (.ixa 2 (.t 48) (.t 50))⟩, .pure, [], []⟩, ⟨⟨none, none, (.st (some 2) (.t 61) (.t 59))⟩, .eff, [], []⟩]) (.seq (.seq (.reg [⟨(some 62), none, (.mv (.t 9))⟩, 
  ⟨(some 63), none, (.mv (.t 1))⟩, ⟨(some 64), none, (.bin .sub (.t 62) (.t 63))⟩, ⟨(some 65), none, (.bin .geq (.t 64) (.k (.int .i64 2)))⟩]) (.cond (.t 65) (.seq 
  (.reg [⟨(some 66), none, (.mv (.t 9))⟩, ⟨(some 67), none, (.bin .sub (.t 66) (.k (.int .i64 1)))⟩, ⟨(some 11), none, (.mv (.t 67))⟩]) (.block 4 (.loop (.seq (.seq 
  (.reg [⟨(some 68), none, (.mv (.t 11))⟩, ⟨(some 69), none, (.bin .geq (.t 68) (.k (.int .i64 1)))⟩]) (.cond (.t 69) .skip (.exit 4))) (.seq (.block 5 (.seq (.seq 
  (.drw 0 [⟨⟨(some 72), none, (.mv (.t 3))⟩, .pure, [], []⟩, ⟨⟨(some 73), none, (.mv (.t 0))⟩, .pure, [], []⟩, ⟨⟨(some 74), none, (.mv (.t 11))⟩, .pure, [], []⟩, 
  ⟨⟨(some 75), none, (.ixa 2 (.t 73) (.t 74))⟩, .pure, [], []⟩, ⟨⟨(some 76), none, (.ld (some 2) (.t 75))⟩, .ld, [], []⟩, ⟨⟨(some 77), none, (.mv (.t 0))⟩, .pure, [4], []⟩, 
  ⟨⟨(some 78), none, (.mv (.t 11))⟩, .pure, [4], []⟩, ⟨⟨(some 79), none, (.bin .sub (.t 78) (.k (.int .i64 1)))⟩, .pure, [4], []⟩, 
  ⟨⟨(some 80), none, (.ixa 2 (.t 77) (.t 79))⟩, .pure, [4], []⟩, ⟨⟨(some 81), none, (.ld (some 2) (.t 80))⟩, .ld, [], []⟩, 
  ⟨⟨(some 82), none, (.calld (.t 72) [(.t 76), (.t 81)])⟩, .eff, [], []⟩, ⟨⟨(some 83), none, (.bin .lss (.t 82) (.k (.int .i64 0)))⟩, .pure, [], []⟩, 
  ⟨⟨(some 84), none, (.un .not (.t 83))⟩, .pure, [], []⟩]) (.cond (.t 84) (.exit 4) .skip)) (.drw 0 [⟨⟨(some 85), none, (.mv (.t 0))⟩, .pure, [], []⟩, 
  ⟨⟨(some 86), none, (.mv (.t 11))⟩, .pure, [], []⟩, ⟨⟨(some 87), none, (.mv (.t 0))⟩, .pure, [], []⟩, ⟨⟨(some 88), none, (.mv (.t 11))⟩, .pure, [], []⟩, 
  ⟨⟨(some 89), none, (.bin .sub (.t 88) (.k (.int .i64 1)))⟩, .pure, [], []⟩, ⟨⟨(some 90), none, (.mv (.t 0))⟩, .pure, [], []⟩, ⟨⟨(some 91), none, (.mv (.t 11))⟩, .pure, [], []⟩, 
  ⟨⟨(some 92), none, (.bin .sub (.t 91) (.k (.int .i64 1)))⟩, .pure, [], []⟩, ⟨⟨(some 93), none, (.ixa 2 (.t 90) (.t 92))⟩, .pure, [], []⟩, 
  ⟨⟨(some 94), none, (.ld (some 2) (.t 93))⟩, .ld, [], []⟩, ⟨⟨(some 95), none, (.mv (.t 0))⟩, .pure, [9], []⟩, ⟨⟨(some 96), none, (.mv (.t 11))⟩, .pure, [9], []⟩, 
  ⟨⟨(some 97), none, (.ixa 2 (.t 95) (.t 96))⟩, .pure, [9], []⟩, ⟨⟨(some 98), none, (.ld (some 2) (.t 97))⟩, .ld, [], []⟩, 
  ⟨⟨(some 99), none, (.ixa 2 (.t 85) (.t 86))⟩, .pure, [], []⟩, ⟨⟨none, none, (.st (some 2) (.t 99) (.t 94))⟩, .eff, [], []⟩, 
  ⟨⟨(some 100), none, (.ixa 2 (.t 87) (.t 89))⟩, .pure, [], []⟩, ⟨⟨none, none, (.st (some 2) (.t 100) (.t 98))⟩, .eff, [], []⟩]))) (.reg [⟨(some 70), none, (.mv (.t 11))⟩, 
  ⟨(some 71), none, (.bin .sub (.t 70) (.k (.int .i64 1)))⟩, ⟨(some 11), none, (.mv (.t 71))⟩])))))) .skip)) (.seq (.reg [⟨(some 101), none, (.mv (.t 2))⟩, 
  ⟨(some 102), none, (.mv (.t 9))⟩, ⟨(some 103), none, (.bin .sub (.t 101) (.t 102))⟩, ⟨(some 104), none, (.bin .geq (.t 103) (.k (.int .i64 2)))⟩]) (.cond (.t 104) (.seq 
  (.reg [⟨(some 105), none, (.mv (.t 9))⟩, ⟨(some 106), none, (.bin .add (.t 105) (.k (.int .i64 1)))⟩, ⟨(some 12), none, (.mv (.t 106))⟩]) (.block 6 (.loop (.seq (.seq 
  (.reg [⟨(some 107), none, (.mv (.t 12))⟩, ⟨(some 108), none, (.mv (.t 2))⟩, ⟨(some 109), none, (.bin .lss (.t 107) (.t 108))⟩]) (.cond (.t 109) .skip (.exit 6))) (.seq (.block 7 
  (.seq (.seq (.drw 0 [⟨⟨(some 112), none, (.mv (.t 3))⟩, .pure, [], []⟩, ⟨⟨(some 113), none, (.mv (.t 0))⟩, .pure, [], []⟩, ⟨⟨(some 114), none, (.mv (.t 12))⟩, .pure, [], []⟩, 
  ⟨⟨(some 115), none, (.ixa 2 (.t 113) (.t 114))⟩, .pure, [], []⟩, ⟨⟨(some 116), none, (.ld (some 2) (.t 115))⟩, .ld, [], []⟩, ⟨⟨(some 117), none, (.mv (.t 0))⟩, .pure, [4], []⟩, 
  ⟨⟨(some 118), none, (.mv (.t 12))⟩, .pure, [4], []⟩, ⟨⟨(some 119), none, (.bin .sub (.t 118) (.k (.int .i64 1)))⟩, .pure, [4], []⟩, 
  ⟨⟨(some 120), none, (.ixa 2 (.t 117) (.t 119))⟩, .pure, [4], []⟩, ⟨⟨(some 121), none, (.ld (some 2) (.t 120))⟩, .ld, [], []⟩, 
  ⟨⟨(some 122), none, (.calld (.t 112) [(.t 116), (.t 121)])⟩, .eff, [], []⟩, ⟨⟨(some 123), none, (.bin .lss (.t 122) (.k (.int .i64 0)))⟩, .pure, [], []⟩, 
  ⟨⟨(some 124), none, (.un .not (.t 123))⟩, .pure, [], []⟩]) (.cond (.t 124) (.exit 6) .skip)) (.drw 0 [⟨⟨(some 125), none, (.mv (.t 0))⟩, .pure, [], []⟩, 
  ⟨⟨(some 126), none, (.mv (.t 12))⟩, .pure, [], []⟩, ⟨⟨(some 127), none, (.mv (.t 0))⟩, .pure, [], []⟩, ⟨⟨(some 128), none, (.mv (.t 12))⟩, .pure, [], []⟩, 
  ⟨⟨(some 129), none, (.bin .sub (.t 128) (.k (.int .i64 1)))⟩, .pure, [], []⟩, ⟨⟨(some 130), none, (.mv (.t 0))⟩, .pure, [], []⟩, 
  ⟨⟨(some 131), none, (.mv (.t 12))⟩, .pure, [], []⟩, ⟨⟨(some 132), none, (.bin .sub (.t 131) (.k (.int .i64 1)))⟩, .pure, [], []⟩, 
  ⟨⟨(some 133), none, (.ixa 2 (.t 130) (.t 132))⟩, .pure, [], []⟩, ⟨⟨(some 134), none, (.ld (some 2) (.t 133))⟩, .ld, [], []⟩, ⟨⟨(some 135), none, (.mv (.t 0))⟩, .pure, [9], []⟩, 
  ⟨⟨(some 136), none, (.mv (.t 12))⟩, .pure, [9], []⟩, ⟨⟨(some 137), none, (.ixa 2 (.t 135) (.t 136))⟩, .pure, [9], []⟩, ⟨⟨(some 138), none, (.ld (some 2) (.t 137))⟩, .ld, [], []⟩, 
  ⟨⟨(some 139), none, (.ixa 2 (.t 125) (.t 126))⟩, .pure, [], []⟩, ⟨⟨none, none, (.st (some 2) (.t 139) (.t 134))⟩, .eff, [], []⟩, 
  ⟨⟨(some 140), none, (.ixa 2 (.t 127) (.t 129))⟩, .pure, [], []⟩, ⟨⟨none, none, (.st (some 2) (.t 140) (.t 138))⟩, .eff, [], []⟩]))) (.reg [⟨(some 110), none, (.mv (.t 12))⟩, 
  ⟨(some 111), none, (.bin .add (.t 110) (.k (.int .i64 1)))⟩, ⟨(some 12), none, (.mv (.t 111))⟩])))))) .skip)))))))) (.reg [⟨(some 17), none, (.mv (.t 10))⟩, 
  ⟨(some 18), none, (.bin .add (.t 17) (.k (.int .i64 1)))⟩, ⟨(some 10), none, (.mv (.t 18))⟩])))))) (.seq (.reg [⟨(some 8), none, (.mv (.k (.bool false)))⟩]) .ret))))⟩
theorem c_slices_partialInsertionSortCmpFunc_Addr : compF Try.prog ⟨some 71, some 43⟩ Try.f83 = some r_slices_partialInsertionSortCmpFunc_Addr := by kernel_rfl
/-- slices.partitionEqualCmpFunc[tenancy/api.Addr] -/
def r_slices_partitionEqualCmpFunc_Addr : RF :=
  ⟨90, [(.tmp 10)], (.seq (.reg [⟨(some 10), none, (.mv (.k (.int .i64 0)))⟩]) (.seq (.drw 0 [⟨⟨(some 13), none, (.mv (.t 0))⟩, .pure, [], []⟩, 
  ⟨⟨(some 14), none, (.mv (.t 1))⟩, .pure, [], []⟩, ⟨⟨(some 15), none, (.mv (.t 0))⟩, .pure, [], []⟩, ⟨⟨(some 16), none, (.mv (.t 3))⟩, .pure, [], []⟩, 
  ⟨⟨(some 17), none, (.mv (.t 0))⟩, .pure, [], []⟩, ⟨⟨(some 18), none, (.mv (.t 3))⟩, .pure, [], []⟩, ⟨⟨(some 19), none, (.ixa 2 (.t 17) (.t 18))⟩, .pure, [], []⟩, 
  ⟨⟨(some 20), none, (.ld (some 2) (.t 19))⟩, .ld, [], []⟩, ⟨⟨(some 21), none, (.mv (.t 0))⟩, .pure, [7], []⟩, ⟨⟨(some 22), none, (.mv (.t 1))⟩, .pure, [7], []⟩, 
  ⟨⟨(some 23), none, (.ixa 2 (.t 21) (.t 22))⟩, .pure, [7], []⟩, ⟨⟨(some 24), none, (.ld (some 2) (.t 23))⟩, .ld, [], []⟩, 
  ⟨⟨(some 25), none, (.ixa 2 (.t 13) (.t 14))⟩, .pure, [], []⟩, ⟨⟨none, none, (.st (some 2) (.t 25) (.t 20))⟩, .eff, [], []⟩, 
  ⟨⟨(some 26), none, (.ixa 2 (.t 15) (.t 16))⟩, .pure, [], []⟩, ⟨⟨none, none, (.st (some 2) (.t 26) (.t 24))⟩, .eff, [], []⟩]) (.seq (.reg [⟨(some 27), none, (.mv (.t 1))⟩, 
  ⟨(some 28), none, (.bin .add (.t 27) (.k (.int .i64 1)))⟩, ⟨(some 29), none, (.mv (.t 2))⟩, ⟨(some 30), none, (.bin .sub (.t 29) (.k (.int .i64 1)))⟩, 
  ⟨(some 11), none, (.mv (.t 28))⟩, ⟨(some 12), none, (.mv (.t 30))⟩]) (.seq (.block 0 (.loop (.block 1 (.seq (.block 2 (.loop (.seq (.seq 
  (.drw 0 [⟨⟨(some 31), none, (.mv (.t 11))⟩, .pure, [], []⟩, ⟨⟨(some 32), none, (.mv (.t 12))⟩, .pure, [], []⟩, ⟨⟨(some 33), none, (.bin .leq (.t 31) (.t 32))⟩, .pure, [], []⟩, 
  ⟨⟨(some 34), none, (.mv (.t 33))⟩, .pure, [], []⟩, ⟨⟨(some 35), (some (34, true)), (.mv (.t 4))⟩, .pure, [], []⟩, ⟨⟨(some 36), (some (34, true)), (.mv (.t 0))⟩, .pure, [], []⟩, 
  ⟨⟨(some 37), (some (34, true)), (.mv (.t 1))⟩, .pure, [], []⟩, ⟨⟨(some 38), (some (34, true)), (.ixa 2 (.t 36) (.t 37))⟩, .pure, [], []⟩, 
  ⟨⟨(some 39), (some (34, true)), (.ld (some 2) (.t 38))⟩, .ld, [], []⟩, ⟨⟨(some 40), (some (34, true)), (.mv (.t 0))⟩, .pure, [8], []⟩, 
  ⟨⟨(some 41), (some (34, true)), (.mv (.t 11))⟩, .pure, [8], []⟩, ⟨⟨(some 42), (some (34, true)), (.ixa 2 (.t 40) (.t 41))⟩, .pure, [8], []⟩, 
  ⟨⟨(some 43), (some (34, true)), (.ld (some 2) (.t 42))⟩, .ld, [], []⟩, ⟨⟨(some 44), (some (34, true)), (.calld (.t 35) [(.t 39), (.t 43)])⟩, .eff, [], []⟩, 
  ⟨⟨(some 45), (some (34, true)), (.bin .lss (.t 44) (.k (.int .i64 0)))⟩, .pure, [], []⟩, ⟨⟨(some 46), (some (34, true)), (.un .not (.t 45))⟩, .pure, [], []⟩, 
  ⟨⟨(some 47), none, (.pick (.t 34) (.t 46) (.k (.bool false)))⟩, .pure, [], []⟩]) (.cond (.t 47) .skip (.exit 2))) (.block 3 (.reg [⟨(some 48), none, (.mv (.t 11))⟩, 
  ⟨(some 49), none, (.bin .add (.t 48) (.k (.int .i64 1)))⟩, ⟨(some 11), none, (.mv (.t 49))⟩]))))) (.seq (.block 4 (.loop (.seq (.seq 
  (.drw 0 [⟨⟨(some 50), none, (.mv (.t 11))⟩, .pure, [], []⟩, ⟨⟨(some 51), none, (.mv (.t 12))⟩, .pure, [], []⟩, ⟨⟨(some 52), none, (.bin .leq (.t 50) (.t 51))⟩, .pure, [], []⟩, 
  ⟨⟨(some 53), none, (.mv (.t 52))⟩, .pure, [], []⟩, ⟨⟨(some 54), (some (53, true)), (.mv (.t 4))⟩, .pure, [], []⟩, ⟨⟨(some 55), (some (53, true)), (.mv (.t 0))⟩, .pure, [], []⟩, 
  ⟨⟨(some 56), (some (53, true)), (.mv (.t 1))⟩, .pure, [], []⟩, ⟨⟨(some 57), (some (53, true)), (.ixa 2 (.t 55) (.t 56))⟩, .pure, [], []⟩, 
  ⟨⟨(some 58), (some (53, true)), (.ld (some 2) (.t 57))⟩, .ld, [], []⟩, ⟨⟨(some 59), (some (53, true)), (.mv (.t 0))⟩, .pure, [8], []⟩, 
  ⟨⟨(some 60), (some (53, true)), (.mv (.t 12))⟩, .pure, [8], []⟩, ⟨⟨(some 61), (some (53, true)), (.ixa 2 (.t 59) (.t 60))⟩, .pure, [8], []⟩, 
  ⟨⟨(some 62), (some (53, true)), (.ld (some 2) (.t 61))⟩, .ld, [], []⟩, ⟨⟨(some 63), (some (53, true)), (.calld (.t 54) [(.t 58), (.t 62)])⟩, .eff, [], []⟩, 
  ⟨⟨(some 64), (some (53, true)), (.bin .lss (.t 63) (.k (.int .i64 0)))⟩, .pure, [], []⟩, ⟨⟨(some 65), none, (.pick (.t 53) (.t 64) (.k (.bool false)))⟩, .pure, [], []⟩]) 
  (.cond (.t 65) .skip (.exit 4))) (.block 5 (.reg [⟨(some 66), none, (.mv (.t 12))⟩, ⟨(some 67), none, (.bin .sub (.t 66) (.k (.int .i64 1)))⟩, 
  ⟨(some 12), none, (.mv (.t 67))⟩]))))) (.seq (.seq (.reg [⟨(some 68), none, (.mv (.t 11))⟩, ⟨(some 69), none, (.mv (.t 12))⟩, ⟨(some 70), none, (.bin .gtr (.t 68) (.t 69))⟩]) 
  (.cond (.t 70) (.exit 0) .skip)) (.seq (.drw 0 [⟨⟨(some 71), none, (.mv (.t 0))⟩, .pure, [], []⟩, ⟨⟨(some 72), none, (.mv (.t 11))⟩, .pure, [], []⟩, 
  ⟨⟨(some 73), none, (.mv (.t 0))⟩, .pure, [], []⟩, ⟨⟨(some 74), none, (.mv (.t 12))⟩, .pure, [], []⟩, ⟨⟨(some 75), none, (.mv (.t 0))⟩, .pure, [], []⟩, 
  ⟨⟨(some 76), none, (.mv (.t 12))⟩, .pure, [], []⟩, ⟨⟨(some 77), none, (.ixa 2 (.t 75) (.t 76))⟩, .pure, [], []⟩, ⟨⟨(some 78), none, (.ld (some 2) (.t 77))⟩, .ld, [], []⟩, 
  ⟨⟨(some 79), none, (.mv (.t 0))⟩, .pure, [7], []⟩, ⟨⟨(some 80), none, (.mv (.t 11))⟩, .pure, [7], []⟩, ⟨⟨(some 81), none, (.ixa 2 (.t 79) (.t 80))⟩, .pure, [7], []⟩, 
  ⟨⟨(some 82), none, (.ld (some 2) (.t 81))⟩, .ld, [], []⟩, ⟨⟨(some 83), none, (.ixa 2 (.t 71) (.t 72))⟩, .pure, [], []⟩, 
  ⟨⟨none, none, (.st (some 2) (.t 83) (.t 78))⟩, .eff, [], []⟩, ⟨⟨(some 84), none, (.ixa 2 (.t 73) (.t 74))⟩, .pure, [], []⟩, 
  ⟨⟨none, none, (.st (some 2) (.t 84) (.t 82))⟩, .eff, [], []⟩]) (.seq (.reg [⟨(some 85), none, (.mv (.t 11))⟩, ⟨(some 86), none, (.bin .add (.t 85) (.k (.int .i64 1)))⟩, 
  ⟨(some 11), none, (.mv (.t 86))⟩]) (.reg [⟨(some 87), none, (.mv (.t 12))⟩, ⟨(some 88), none, (.bin .sub (.t 87) (.k (.int .i64 1)))⟩, ⟨(some 12), none, (.mv (.t 88))⟩]))))))))) 
  (.seq (.reg [⟨(some 89), none, (.mv (.t 11))⟩, ⟨(some 10), none, (.mv (.t 89))⟩]) .ret)))))⟩
theorem c_slices_partitionEqualCmpFunc_Addr : compF Try.prog ⟨some 71, some 43⟩ Try.f84 = some r_slices_partitionEqualCmpFunc_Addr := by kernel_rfl
/-- slices.partitionCmpFunc[tenancy/api.Addr] -/
def r_slices_partitionCmpFunc_Addr : RF :=
  ⟨178, [(.tmp 10), (.tmp 11)], (.seq (.reg [⟨(some 10), none, (.mv (.k (.int .i64 0)))⟩, ⟨(some 11), none, (.mv (.k (.bool false)))⟩]) (.seq 
  (.drw 0 [⟨⟨(some 14), none, (.mv (.t 0))⟩, .pure, [], []⟩, ⟨⟨(some 15), none, (.mv (.t 1))⟩, .pure, [], []⟩, ⟨⟨(some 16), none, (.mv (.t 0))⟩, .pure, [], []⟩, 
  ⟨⟨(some 17), none, (.mv (.t 3))⟩, .pure, [], []⟩, ⟨⟨(some 18), none, (.mv (.t 0))⟩, .pure, [], []⟩, ⟨⟨(some 19), none, (.mv (.t 3))⟩, .pure, [], []⟩, 
  ⟨⟨(some 20), none, (.ixa 2 (.t 18) (.t 19))⟩, .pure, [], []⟩, ⟨⟨(some 21), none, (.ld (some 2) (.t 20))⟩, .ld, [], []⟩, ⟨⟨(some 22), none, (.mv (.t 0))⟩, .pure, [7], []⟩, 
  ⟨⟨(some 23), none, (.mv (.t 1))⟩, .pure, [7], []⟩, ⟨⟨(some 24), none, (.ixa 2 (.t 22) (.t 23))⟩, .pure, [7], []⟩, ⟨⟨(some 25), none, (.ld (some 2) (.t 24))⟩, .ld, [], []⟩, 
  ⟨⟨(some 26), none, (.ixa 2 (.t 14) (.t 15))⟩, .pure, [], []⟩, ⟨⟨none, none, (.st (some 2) (.t 26) (.t 21))⟩, .eff, [], []⟩, 
  ⟨⟨(some 27), none, (.ixa 2 (.t 16) (.t 17))⟩, .pure, [], []⟩, ⟨⟨none, none, (.st (some 2) (.t 27) (.t 25))⟩, .eff, [], []⟩]) (.seq (.reg [⟨(some 28), none, (.mv (.t 1))⟩, 
  ⟨(some 29), none, (.bin .add (.t 28) (.k (.int .i64 1)))⟩, ⟨(some 30), none, (.mv (.t 2))⟩, ⟨(some 31), none, (.bin .sub (.t 30) (.k (.int .i64 1)))⟩, 
  ⟨(some 12), none, (.mv (.t 29))⟩, ⟨(some 13), none, (.mv (.t 31))⟩]) (.seq (.block 0 (.loop (.seq (.seq (.drw 0 [⟨⟨(some 32), none, (.mv (.t 12))⟩, .pure, [], []⟩, 
  ⟨⟨(some 33), none, (.mv (.t 13))⟩, .pure, [], []⟩, ⟨⟨(some 34), none, (.bin .leq (.t 32) (.t 33))⟩, .pure, [], []⟩, ⟨⟨(some 35), none, (.mv (.t 34))⟩, .pure, [], []⟩, 
  ⟨⟨(some 36), (some (35, true)), (.mv (.t 4))⟩, .pure, [], []⟩, ⟨⟨(some 37), (some (35, true)), (.mv (.t 0))⟩, .pure, [], []⟩, 
  ⟨⟨(some 38), (some (35, true)), (.mv (.t 12))⟩, .pure, [], []⟩, ⟨⟨(some 39), (some (35, true)), (.ixa 2 (.t 37) (.t 38))⟩, .pure, [], []⟩, 
  ⟨⟨(some 40), (some (35, true)), (.ld (some 2) (.t 39))⟩, .ld, [], []⟩, ⟨⟨(some 41), (some (35, true)), (.mv (.t 0))⟩, .pure, [8], []⟩, 
  ⟨⟨(some 42), (some (35, true)), (.mv (.t 1))⟩, .pure, [8], []⟩, ⟨⟨(some 43), (some (35, true)), (.ixa 2 (.t 41) (.t 42))⟩, .pure, [8], []⟩, 
  ⟨⟨(some 44), (some (35, true)), (.ld (some 2) (.t 43))⟩, .ld, [], []⟩, ⟨⟨(some 45), (some (35, true)), (.calld (.t 36) [(.t 40), (.t 44)])⟩, .eff, [], []⟩, 
  ⟨⟨(some 46), (some (35, true)), (.bin .lss (.t 45) (.k (.int .i64 0)))⟩, .pure, [], []⟩, ⟨⟨(some 47), none, (.pick (.t 35) (.t 46) (.k (.bool false)))⟩, .pure, [], []⟩]) 
  (.cond (.t 47) .skip (.exit 0))) (.block 1 (.reg [⟨(some 48), none, (.mv (.t 12))⟩, ⟨(some 49), none, (.bin .add (.t 48) (.k (.int .i64 1)))⟩, 
  ⟨(some 12), none, (.mv (.t 49))⟩]))))) (.seq (.block 2 (.loop (.seq (.seq (.drw 0 [⟨⟨(some 50), none, (.mv (.t 12))⟩, .pure, [], []⟩, 
  ⟨⟨(some 51), none, (.mv (.t 13))⟩, .pure, [], []⟩, ⟨⟨(some 52), none, (.bin .leq (.t 50) (.t 51))⟩, .pure, [], []⟩, ⟨⟨(some 53), none, (.mv (.t 52))⟩, .pure, [], []⟩, 
  ⟨⟨(some 54), (some (53, true)), (.mv (.t 4))⟩, .pure, [], []⟩, ⟨⟨(some 55), (some (53, true)), (.mv (.t 0))⟩, .pure, [], []⟩, 
  ⟨⟨(some 56), (some (53, true)), (.mv (.t 13))⟩, .pure, [], []⟩, ⟨⟨(some 57), (some (53, true)), (.ixa 2 (.t 55) (.t 56))⟩, .pure, [], []⟩, 
  ⟨⟨(some 58), (some (53, true)), (.ld (some 2) (.t 57))⟩, .ld, [], []⟩, ⟨⟨(some 59), (some (53, true)), (.mv (.t 0))⟩, .pure, [8], []⟩, 
  ⟨⟨(some 60), (some (53, true)), (.mv (.t 1))⟩, .pure, [8], []⟩, ⟨⟨(some 61), (some (53, true)), (.ixa 2 (.t 59) (.t 60))⟩, .pure, [8], []⟩, 
  ⟨⟨(some 62), (some (53, true)), (.ld (some 2) (.t 61))⟩, .ld, [], []⟩, ⟨⟨(some 63), (some (53, true)), (.calld (.t 54) [(.t 58), (.t 62)])⟩, .eff, [], []⟩, 
  ⟨⟨(some 64), (some (53, true)), (.bin .lss (.t 63) (.k (.int .i64 0)))⟩, .pure, [], []⟩, ⟨⟨(some 65), (some (53, true)), (.un .not (.t 64))⟩, .pure, [], []⟩, 
  ⟨⟨(some 66), none, (.pick (.t 53) (.t 65) (.k (.bool false)))⟩, .pure, [], []⟩]) (.cond (.t 66) .skip (.exit 2))) (.block 3 (.reg [⟨(some 67), none, (.mv (.t 13))⟩, 
  ⟨(some 68), none, (.bin .sub (.t 67) (.k (.int .i64 1)))⟩, ⟨(some 13), none, (.mv (.t 68))⟩]))))) (.seq (.seq (.reg [⟨(some 69), none, (.mv (.t 12))⟩, 
  ⟨(some 70), none, (.mv (.t 13))⟩, ⟨(some 71), none, (.bin .gtr (.t 69) (.t 70))⟩]) (.cond (.t 71) (.seq (.drw 0 [⟨⟨(some 72), none, (.mv (.t 0))⟩, .pure, [], []⟩, 
  ⟨⟨(some 73), none, (.mv (.t 13))⟩, .pure, [], []⟩, ⟨⟨(some 74), none, (.mv (.t 0))⟩, .pure, [], []⟩, ⟨⟨(some 75), none, (.mv (.t 1))⟩, .pure, [], []⟩, 
  ⟨⟨(some 76), none, (.mv (.t 0))⟩, .pure, [], []⟩, ⟨⟨(some 77), none, (.mv (.t 1))⟩, .pure, [], []⟩, ⟨⟨(some 78), none, (.ixa 2 (.t 76) (.t 77))⟩, .pure, [], []⟩, 
  ⟨⟨(some 79), none, (.ld (some 2) (.t 78))⟩, .ld, [], []⟩, ⟨⟨(some 80), none, (.mv (.t 0))⟩, .pure, [7], []⟩, ⟨⟨(some 81), none, (.mv (.t 13))⟩, .pure, [7], []⟩, 
  ⟨⟨(some 82), none, (.ixa 2 (.t 80) (.t 81))⟩, .pure, [7], []⟩, ⟨⟨(some 83), none, (.ld (some 2) (.t 82))⟩, .ld, [], []⟩, 
  ⟨⟨(some 84), none, (.ixa 2 (.t 72) (.t 73))⟩, .pure, [], []⟩, ⟨⟨none, none, (.st (some 2) (.t 84) (.t 79))⟩, .eff, [], []⟩, 
  ⟨⟨(some 85), none, (.ixa 2 (.t 74) (.t 75))⟩, .pure, [], []⟩, ⟨⟨none, none, (.st (some 2) (.t 85) (.t 83))⟩, .eff, [], []⟩]) (.seq (.reg [⟨(some 86), none, (.mv (.t 13))⟩, 
  ⟨(some 10), none, (.mv (.t 86))⟩, ⟨(some 11), none, (.mv (.k (.bool true)))⟩]) .ret)) .skip)) (.seq (.drw 0 [⟨⟨(some 87), none, (.mv (.t 0))⟩, .pure, [], []⟩, 
  ⟨⟨(some 88), none, (.mv (.t 12))⟩, .pure, [], []⟩, ⟨⟨(some 89), none, (.mv (.t 0))⟩, .pure, [], []⟩, ⟨⟨(some 90), none, (.mv (.t 13))⟩, .pure, [], []⟩, 
  ⟨⟨(some 91), none, (.mv (.t 0))⟩, .pure, [], []⟩, ⟨⟨(some 92), none, (.mv (.t 13))⟩, .pure, [], []⟩, ⟨⟨(some 93), none, (.ixa 2 (.t 91) (.t 92))⟩, .pure, [], []⟩, 
  ⟨⟨(some 94), none, (.ld (some 2) (.t 93))⟩, .ld, [], []⟩, ⟨⟨(some 95), none, (.mv (.t 0))⟩, .pure, [7], []⟩, ⟨⟨(some 96), none, (.mv (.t 12))⟩, .pure, [7], []⟩, 
  ⟨⟨(some 97), none, (.ixa 2 (.t 95) (.t 96))⟩, .pure, [7], []⟩, ⟨⟨(some 98), none, (.ld (some 2) (.t 97))⟩, .ld, [], []⟩, 
  ⟨⟨(some 99), none, (.ixa 2 (.t 87) (.t 88))⟩, .pure, [], []⟩, ⟨⟨none, none, (.st (some 2) (.t 99) (.t 94))⟩, .eff, [], []⟩, 
  ⟨⟨(some 100), none, (.ixa 2 (.t 89) (.t 90))⟩, .pure, [], []⟩, ⟨⟨none, none, (.st (some 2) (.t 100) (.t 98))⟩, .eff, [], []⟩]) (.seq (.reg [⟨(some 101), none, (.mv (.t 12))⟩, 
  ⟨(some 102), none, (.bin .add (.t 101) (.k (.int .i64 1)))⟩, ⟨(some 12), none, (.mv (.t 102))⟩]) (.seq (.reg [⟨(some 103), none, (.mv (.t 13))⟩, 
  ⟨(some 104), none, (.bin .sub (.t 103) (.k (.int .i64 1)))⟩, ⟨(some 13), none, (.mv (.t 104))⟩]) (.seq (.block 4 (.loop (.block 5 (.seq (.block 6 (.loop (.seq (.seq 
  (.drw 0 [⟨⟨(some 105), none, (.mv (.t 12))⟩, .pure, [], []⟩, ⟨⟨(some 106), none, (.mv (.t 13))⟩, .pure, [], []⟩, 
  ⟨⟨(some 107), none, (.bin .leq (.t 105) (.t 106))⟩, .pure, [], []⟩, ⟨⟨(some 108), none, (.mv (.t 107))⟩, .pure, [], []⟩, 
  ⟨⟨(some 109), (some (108, true)), (.mv (.t 4))⟩, .pure, [], []⟩, ⟨⟨(some 110), (some (108, true)), (.mv (.t 0))⟩, .pure, [], []⟩, 
  ⟨⟨(some 111), (some (108, true)), (.mv (.t 12))⟩, .pure, [], []⟩, ⟨⟨(some 112), (some (108, true)), (.ixa 2 (.t 110) (.t 111))⟩, .pure, [], []⟩, 
  ⟨⟨(some 113), (some (108, true)), (.ld (some 2) (.t 112))⟩, .ld, [], []⟩, ⟨⟨(some 114), (some (108, true)), (.mv (.t 0))⟩, .pure, [8], []⟩, 
  ⟨⟨(some 115), (some (108, true)), (.mv (.t 1))⟩, .pure, [8], []⟩, ⟨⟨(some 116), (some (108, true)), (.ixa 2 (.t 114) (.t 115))⟩, .pure, [8], []⟩, 
  ⟨⟨(some 117), (some (108, true)), (.ld (some 2) (.t 116))⟩, .ld, [], []⟩, ⟨⟨(some 118), (some (108, true)), (.calld (.t 109) [(.t 113), (.t 117)])⟩, .eff, [], []⟩, 
  ⟨⟨(some 119), (some (108, true)), (.bin .lss (.t 118) (.k (.int .i64 0)))⟩, .pure, [], []⟩, ⟨⟨(some 120), none, (.pick (.t 108) (.t 119) (.k (.bool false)))⟩, .pure, [], []⟩]) 
  (.cond (.t 120) .skip (.exit 6))) (.block 7 (.reg [⟨(some 121), none, (.mv (.t 12))⟩, ⟨(some 122), none, (.bin .add (.t 121) (.k (.int .i64 1)))⟩, 
  ⟨(some 12), none, (.mv (.t 122))⟩]))))) (.seq (.block 8 (.loop (.seq (.seq (.drw 0 [⟨⟨(some 123), none, (.mv (.t 12))⟩, .pure, [], []⟩, 
  ⟨⟨(some 124), none, (.mv (.t 13))⟩, .pure, [], []⟩, ⟨⟨(some 125), none, (.bin .leq (.t 123) (.t 124))⟩, .pure, [], []⟩, ⟨⟨(some 126), none, (.mv (.t 125))⟩, .pure, [], []⟩, 
  ⟨⟨(some 127), (some (126, true)), (.mv (.t 4))⟩, .pure, [], []⟩, ⟨⟨(some 128), (some (126, true)), (.mv (.t 0))⟩, .pure, [], []⟩, 
  ⟨⟨(some 129), (some (126, true)), (.mv (.t 13))⟩, .pure, [], []⟩, ⟨⟨(some 130), (some (126, true)), (.ixa 2 (.t 128) (.t 129))⟩, .pure, [], []⟩, 
  ⟨⟨(some 131), (some (126, true)), (.ld (some 2) (.t 130))⟩, .ld, [], []⟩, ⟨⟨(some 132), (some (126, true)), (.mv (.t 0))⟩, .pure, [8], []⟩, 
  ⟨⟨(some 133), (some (126, true)), (.mv (.t 1))⟩, .pure, [8], []⟩, ⟨⟨(some 134), (some (126, true)), (.ixa 2 (.t 132) (.t 133))⟩, .pure, [8], []⟩, 
  ⟨⟨(some 135), (some (126, true)), (.ld (some 2) (.t 134))⟩, .ld, [], []⟩, ⟨⟨(some 136), (some (126, true)), (.calld (.t 127) [(.t 131), (.t 135)])⟩, .eff, [], []⟩, 
  ⟨⟨(some 137), (some (126, true)), (.bin .lss (.t 136) (.k (.int .i64 0)))⟩, .pure, [], []⟩, ⟨⟨(some 138), (some (126, true)), (.un .not (.t 137))⟩, .pure, [], []⟩, 
  ⟨⟨(some 139), none, (.pick (.t 126) (.t 138) (.k (.bool false)))⟩, .pure, [], []⟩]) (.cond (.t 139) .skip (.exit 8))) (.block 9 (.reg [⟨(some 140), none, (.mv (.t 13))⟩, 
  ⟨(some 141), none, (.bin .sub (.t 140) (.k (.int .i64 1)))⟩, ⟨(some 13), none, (.mv (.t 141))⟩]))))) (.seq (.seq (.reg [⟨(some 142), none, (.mv (.t 12))⟩, 
  ⟨(some 143), none, (.mv (.t 13))⟩, ⟨(some 144), none, (.bin .gtr (.t 142) (.t 143))⟩]) (.cond (.t 144) (.exit 4) .skip)) (.seq 
  (.drw 0 [⟨⟨(some 145), none, (.mv (.t 0))⟩, .pure, [], []⟩, ⟨⟨(some 146), none, (.mv (.t 12))⟩, .pure, [], []⟩, ⟨⟨(some 147), none, (.mv (.t 0))⟩, .pure, [], []⟩, 
  ⟨⟨(some 148), none, (.mv (.t 13))⟩, .pure, [], []⟩, ⟨⟨(some 149), none, (.mv (.t 0))⟩, .pure, [], []⟩, ⟨⟨(some 150), none, (.mv (.t 13))⟩, .pure, [], []⟩, 
  ⟨⟨(some 151), none, (.ixa 2 (.t 149) (.t 150))⟩, .pure, [], []⟩, ⟨⟨(some 152), none, (.ld (some 2) (.t 151))⟩, .ld, [], []⟩, ⟨⟨(some 153), none, (.mv (.t 0))⟩, .pure, [7], []⟩, 
  ⟨⟨(some 154), none, (.mv (.t 12))⟩, .pure, [7], []⟩, ⟨⟨(some 155), none, (.ixa 2 (.t 153) (.t 154))⟩, .pure, [7], []⟩, ⟨⟨(some 156), none, (.ld (some 2) (.t 155))⟩, .ld, [], []⟩, 
  ⟨⟨(some 157), none, (.ixa 2 (.t 145) (.t 146))⟩, .pure, [], []⟩, ⟨⟨none, none, (.st (some 2) (.t 157) (.t 152))⟩, .eff, [], []⟩, 
  ⟨⟨(some 158), none, (.ixa 2 (.t 147) (.t 148))⟩, .pure, [], []⟩, ⟨⟨none, none, (.st (some 2) (.t 158) (.t 156))⟩, .eff, [], []⟩]) (.seq (.reg [⟨(some 159), none, (.mv (.t 12))⟩, 
  ⟨(some 160), none, (.bin .add (.t 159) (.k (.int .i64 1)))⟩, ⟨(some 12), none, (.mv (.t 160))⟩]) (.reg [⟨(some 161), none, (.mv (.t 13))⟩, 
  ⟨(some 162), none, (.bin .sub (.t 161) (.k (.int .i64 1)))⟩, ⟨(some 13), none, (.mv (.t 162))⟩]))))))))) (.seq (.drw 0 [⟨⟨(some 163), none, (.mv (.t 0))⟩, .pure, [], []⟩, 
  ⟨⟨(some 164), none, (.mv (.t 13))⟩, .pure, [], []⟩, ⟨⟨(some 165), none, (.mv (.t 0))⟩, .pure, [], []⟩, ⟨⟨(some 166), none, (.mv (.t 1))⟩, .pure, [], []⟩, 
  ⟨⟨(some 167), none, (.mv (.t 0))⟩, .pure, [], []⟩, ⟨⟨(some 168), none, (.mv (.t 1))⟩, .pure, [], []⟩, ⟨⟨(some 169), none, (.ixa 2 (.t 167) (.t 168))⟩, .pure, [], []⟩, 
  ⟨⟨(some 170), none, (.ld (some 2) (.t 169))⟩, .ld, [], []⟩, ⟨⟨(some 171), none, (.mv (.t 0))⟩, .pure, [7], []⟩, ⟨⟨(some 172), none, (.mv (.t 13))⟩, .pure, [7], []⟩, 
  ⟨⟨(some 173), none, (.ixa 2 (.t 171) (.t 172))⟩, .pure, [7], []⟩, ⟨⟨(some 174), none, (.ld (some 2) (.t 173))⟩, .ld, [], []⟩, 
  ⟨⟨(some 175), none, (.ixa 2 (.t 163) (.t 164))⟩, .pure, [], []⟩, ⟨⟨none, none, (.st (some 2) (.t 175) (.t 170))⟩, .eff, [], []⟩, 
  ⟨⟨(some 176), none, (.ixa 2 (.t 165) (.t 166))⟩, .pure, [], []⟩, ⟨⟨none, none, (.st (some 2) (.t 176) (.t 174))⟩, .eff, [], []⟩]) (.seq (.reg [⟨(some 177), none, (.mv (.t 13))⟩, 
  ⟨(some 10), none, (.mv (.t 177))⟩, ⟨(some 11), none, (.mv (.k (.bool false)))⟩]) .ret))))))))))))⟩
theorem c_slices_partitionCmpFunc_Addr : compF Try.prog ⟨some 71, some 43⟩ Try.f85 = some r_slices_partitionCmpFunc_Addr := by kernel_rfl
/-- math/bits.Len32 -/
def r_bits_Len32 : RF :=
  ⟨19, [(.tmp 2)], (.seq (.reg [⟨(some 2), none, (.mv (.k (.int .i64 0)))⟩]) (.seq (.seq (.reg [⟨(some 3), none, (.mv (.t 0))⟩, 
  ⟨(some 4), none, (.bin .geq (.t 3) (.k (.int .u32 65536)))⟩]) (.cond (.t 4) (.seq (.reg [⟨(some 5), none, (.mv (.t 0))⟩, ⟨(some 6), none, (.bin .shr (.t 5) (.k (.int .u64 16)))⟩, 
  ⟨(some 0), none, (.mv (.t 6))⟩]) (.reg [⟨(some 2), none, (.mv (.k (.int .i64 16)))⟩])) .skip)) (.seq (.seq (.reg [⟨(some 7), none, (.mv (.t 0))⟩, 
  ⟨(some 8), none, (.bin .geq (.t 7) (.k (.int .u32 256)))⟩]) (.cond (.t 8) (.seq (.reg [⟨(some 9), none, (.mv (.t 0))⟩, ⟨(some 10), none, (.bin .shr (.t 9) (.k (.int .u64 8)))⟩, 
  ⟨(some 0), none, (.mv (.t 10))⟩]) (.reg [⟨(some 11), none, (.mv (.t 2))⟩, ⟨(some 12), none, (.bin .add (.t 11) (.k (.int .i64 8)))⟩, ⟨(some 2), none, (.mv (.t 12))⟩])) .skip)) 
  (.seq (.reg [⟨(some 13), none, (.mv (.t 2))⟩, ⟨(some 14), none, (.mv (.t 0))⟩, ⟨(some 15), none, (.cvi .u8 (.t 14))⟩, 
  ⟨(some 16), none, (.ixs (.k (.str (bts [0, 1, 2, 2, 3, 3, 3, 3, 4, 4, 4, 4, 4, 4, 4, 4, 5, 5, 5, 5, 5, 5, 5, 5, 5, 5, 5, 5, 5, 5, 5, 5, 6, 6, 6, 6, 6, 6, 6, 6, 6, 6, 6, 6, 6, 6, 6, 6, 6, 6, 6, 6, 6, 6, 6, 6, 6, 6, 6, 6, 6, 6, 6, 6, 7, 7, 7, 7, 7, 7, 7, 7, 7, 7, 7, 7, 7, 7, 7, 7, 7, 7, 7, 7, 7, 7, 7, 7, 7, 7, 7, 7, 7, 7, 7, 7, 7, 7, 7, 7, 7, 7, 7, 7, 7, 7, 7, 7, 7, 7, 7, 7, 7, 7, 7, 7, 7, 7, 7, 7, 7, 7, 7, 7, 7, 7, 7, 7, 8, 8, 8, 8, 8, 8, 8, 8, 8, 8, 8, 8, 8, 8, 8, 8, 8, 8, 8, 8, 8, 8, 8, 8, 8, 8, 8, 8, 8, 8, 8, 8, 8, 8, 8, 8, 8, 8, 8, 8, 8, 8, 8, 8, 8, 8, 8, 8, 8, 8, 8, 8, 8, 8, 8, 8, 8, 8, 8, 8, 8, 8, 8, 8, 8, 8, 8, 8, 8, 8, 8, 8, 8, 8, 8, 8, 8, 8, 8, 8, 8, 8, 8, 8, 8, 8, 8, 8, 8, 8, 8, 8, 8, 8, 8, 8, 8, 8, 8, 8, 8, 8, 8, 8, 8, 8, 8, 8, 8, 8, 8, 8, 8, 8, 8, 8, 8, 8, 8, 8, 8, 8, 8, 8, 8, 8, 8, 8]))) (.t 15))⟩, 
  ⟨(some 17), none, (.cvi .i64 (.t 16))⟩, ⟨(some 18), none, (.bin .add (.t 13) (.t 17))⟩, ⟨(some 2), none, (.mv (.t 18))⟩]) .ret))))⟩
theorem c_bits_Len32 : compF Try.prog ⟨some 71, some 43⟩ Try.f86 = some r_bits_Len32 := by kernel_rfl
/-- tenancy/tenancyref03.with -/
def r_r03_with : RF :=
  ⟨60, [(.tmp 4)], (.seq (.reg [⟨(some 3), none, (.box (some 2) (.t 1))⟩, ⟨(some 4), none, (.mv (.k .nils))⟩]) (.seq (.reg [⟨(some 5), none, (.mv (.k (.int .i64 0)))⟩]) (.seq 
  (.block 0 (.loop (.seq (.seq (.drw 0 [⟨⟨(some 7), none, (.mv (.t 5))⟩, .pure, [], []⟩, ⟨⟨(some 8), none, (.mv (.t 0))⟩, .pure, [], []⟩, 
  ⟨⟨(some 9), none, (.lenl (.t 8))⟩, .pure, [], []⟩, ⟨⟨(some 10), none, (.bin .lss (.t 7) (.t 9))⟩, .pure, [], []⟩, ⟨⟨(some 11), none, (.mv (.t 10))⟩, .pure, [], []⟩, 
  ⟨⟨(some 12), (some (11, true)), (.mv (.t 0))⟩, .pure, [], []⟩, ⟨⟨(some 13), (some (11, true)), (.mv (.t 5))⟩, .pure, [], []⟩, 
  ⟨⟨(some 14), (some (11, true)), (.ixa 2 (.t 12) (.t 13))⟩, .pure, [], []⟩, ⟨⟨(some 15), (some (11, true)), (.ld (some 2) (.t 14))⟩, .ld, [], []⟩, 
  ⟨⟨(some 16), (some (11, true)), (.ld (some 2) (.t 3))⟩, .ld, [], []⟩, ⟨⟨(some 17), (some (11, true)), (.call f_r01_Cmp [(.t 15), (.t 16)])⟩, .eff, [], []⟩, 
  ⟨⟨(some 18), (some (11, true)), (.bin .lss (.t 17) (.k (.int .i64 0)))⟩, .pure, [], []⟩, ⟨⟨(some 19), none, (.pick (.t 11) (.t 18) (.k (.bool false)))⟩, .pure, [], []⟩]) 
  (.cond (.t 19) .skip (.exit 0))) (.block 1 (.reg [⟨(some 20), none, (.mv (.t 5))⟩, ⟨(some 21), none, (.bin .add (.t 20) (.k (.int .i64 1)))⟩, ⟨(some 5), none, (.mv (.t 21))⟩]))))) 
  (.seq (.seq (.drw 0 [⟨⟨(some 22), none, (.mv (.t 5))⟩, .pure, [], []⟩, ⟨⟨(some 23), none, (.mv (.t 0))⟩, .pure, [], []⟩, ⟨⟨(some 24), none, (.lenl (.t 23))⟩, .pure, [], []⟩, 
  ⟨⟨(some 25), none, (.bin .lss (.t 22) (.t 24))⟩, .pure, [], []⟩, ⟨⟨(some 26), none, (.mv (.t 25))⟩, .pure, [], []⟩, ⟨⟨(some 27), (some (26, true)), (.mv (.t 0))⟩, .pure, [], []⟩, 
  ⟨⟨(some 28), (some (26, true)), (.mv (.t 5))⟩, .pure, [], []⟩, ⟨⟨(some 29), (some (26, true)), (.ixa 2 (.t 27) (.t 28))⟩, .pure, [], []⟩, 
  ⟨⟨(some 30), (some (26, true)), (.ld (some 2) (.t 29))⟩, .ld, [], []⟩, ⟨⟨(some 31), (some (26, true)), (.ld (some 2) (.t 3))⟩, .ld, [], []⟩, 
  ⟨⟨(some 32), (some (26, true)), (.eq false (.st (.one 0 .i (.one 1 .i .nil))) (.t 30) (.t 31))⟩, .pure, [], []⟩, 
  ⟨⟨(some 33), none, (.pick (.t 26) (.t 32) (.k (.bool false)))⟩, .pure, [], []⟩]) (.cond (.t 33) (.seq (.reg [⟨(some 34), none, (.mv (.t 0))⟩, 
  ⟨(some 4), none, (.mv (.t 34))⟩]) .ret) .skip)) (.seq (.reg [⟨(some 35), none, (.mv (.t 0))⟩, ⟨(some 36), none, (.ld (some 2) (.t 3))⟩, 
  ⟨(some 37), none, (.bsl 2 1 [(.int .u64 0), (.int .u64 0)] [(0, (2, (.t 36)))])⟩, ⟨(some 38), none, (.app 2 16 (.t 35) (.t 37))⟩, ⟨(some 0), none, (.mv (.t 38))⟩]) (.seq (.seq 
  (.reg [⟨(some 39), none, (.mv (.t 0))⟩, ⟨(some 40), none, (.lenl (.t 39))⟩, ⟨(some 41), none, (.bin .sub (.t 40) (.k (.int .i64 1)))⟩, ⟨(some 6), none, (.mv (.t 41))⟩]) (.block 2 
  (.loop (.seq (.seq (.reg [⟨(some 42), none, (.mv (.t 6))⟩, ⟨(some 43), none, (.mv (.t 5))⟩, ⟨(some 44), none, (.bin .gtr (.t 42) (.t 43))⟩]) (.cond (.t 44) .skip (.exit 2))) (.seq 
  (.block 3 (.reg [⟨(some 47), none, (.mv (.t 0))⟩, ⟨(some 48), none, (.mv (.t 6))⟩, ⟨(some 49), none, (.mv (.t 0))⟩, ⟨(some 50), none, (.mv (.t 6))⟩, 
  ⟨(some 51), none, (.bin .sub (.t 50) (.k (.int .i64 1)))⟩, ⟨(some 52), none, (.ixa 2 (.t 49) (.t 51))⟩, ⟨(some 53), none, (.ld (some 2) (.t 52))⟩, 
  ⟨(some 54), none, (.ixa 2 (.t 47) (.t 48))⟩, ⟨none, none, (.st (some 2) (.t 54) (.t 53))⟩])) (.reg [⟨(some 45), none, (.mv (.t 6))⟩, 
  ⟨(some 46), none, (.bin .sub (.t 45) (.k (.int .i64 1)))⟩, ⟨(some 6), none, (.mv (.t 46))⟩])))))) (.seq (.reg [⟨(some 55), none, (.mv (.t 0))⟩, ⟨(some 56), none, (.mv (.t 5))⟩, 
  ⟨(some 57), none, (.ld (some 2) (.t 3))⟩, ⟨(some 58), none, (.ixa 2 (.t 55) (.t 56))⟩, ⟨none, none, (.st (some 2) (.t 58) (.t 57))⟩]) (.seq (.reg [⟨(some 59), none, (.mv (.t 0))⟩, 
  ⟨(some 4), none, (.mv (.t 59))⟩]) .ret))))))))⟩
theorem c_r03_with : compF Try.prog ⟨some 71, some 43⟩ Try.f87 = some r_r03_with := by kernel_rfl
/-- slices.siftDownCmpFunc[tenancy/api.Addr] -/
def r_slices_siftDownCmpFunc_Addr : RF :=
  ⟨82, [], (.seq (.reg [⟨(some 12), none, (.mv (.t 1))⟩, ⟨(some 10), none, (.mv (.t 12))⟩]) (.block 0 (.loop (.block 1 (.seq (.reg [⟨(some 13), none, (.mv (.t 10))⟩, 
  ⟨(some 14), none, (.bin .mul (.k (.int .i64 2)) (.t 13))⟩, ⟨(some 15), none, (.bin .add (.t 14) (.k (.int .i64 1)))⟩, ⟨(some 11), none, (.mv (.t 15))⟩]) (.seq (.seq 
  (.reg [⟨(some 16), none, (.mv (.t 11))⟩, ⟨(some 17), none, (.mv (.t 2))⟩, ⟨(some 18), none, (.bin .geq (.t 16) (.t 17))⟩]) (.cond (.t 18) (.exit 0) .skip)) (.seq (.seq 
  (.drw 0 [⟨⟨(some 19), none, (.mv (.t 11))⟩, .pure, [], []⟩, ⟨⟨(some 20), none, (.bin .add (.t 19) (.k (.int .i64 1)))⟩, .pure, [], []⟩, 
  ⟨⟨(some 21), none, (.mv (.t 2))⟩, .pure, [], []⟩, ⟨⟨(some 22), none, (.bin .lss (.t 20) (.t 21))⟩, .pure, [], []⟩, ⟨⟨(some 23), none, (.mv (.t 22))⟩, .pure, [], []⟩, 
  ⟨⟨(some 24), (some (23, true)), (.mv (.t 4))⟩, .pure, [], []⟩, ⟨⟨(some 25), (some (23, true)), (.mv (.t 0))⟩, .pure, [], []⟩, 
  ⟨⟨(some 26), (some (23, true)), (.mv (.t 3))⟩, .pure, [], []⟩, ⟨⟨(some 27), (some (23, true)), (.mv (.t 11))⟩, .pure, [], []⟩, 
  ⟨⟨(some 28), (some (23, true)), (.bin .add (.t 26) (.t 27))⟩, .pure, [], []⟩, ⟨⟨(some 29), (some (23, true)), (.ixa 2 (.t 25) (.t 28))⟩, .pure, [], []⟩, 
  ⟨⟨(some 30), (some (23, true)), (.ld (some 2) (.t 29))⟩, .ld, [], []⟩, ⟨⟨(some 31), (some (23, true)), (.mv (.t 0))⟩, .pure, [11], []⟩, 
  ⟨⟨(some 32), (some (23, true)), (.mv (.t 3))⟩, .pure, [11], []⟩, ⟨⟨(some 33), (some (23, true)), (.mv (.t 11))⟩, .pure, [11], []⟩, 
  ⟨⟨(some 34), (some (23, true)), (.bin .add (.t 32) (.t 33))⟩, .pure, [11], []⟩, ⟨⟨(some 35), (some (23, true)), (.bin .add (.t 34) (.k (.int .i64 1)))⟩, .pure, [11], []⟩, 
  ⟨⟨(some 36), (some (23, true)), (.ixa 2 (.t 31) (.t 35))⟩, .pure, [11], []⟩, ⟨⟨(some 37), (some (23, true)), (.ld (some 2) (.t 36))⟩, .ld, [], []⟩, 
  ⟨⟨(some 38), (some (23, true)), (.calld (.t 24) [(.t 30), (.t 37)])⟩, .eff, [], []⟩, ⟨⟨(some 39), (some (23, true)), (.bin .lss (.t 38) (.k (.int .i64 0)))⟩, .pure, [], []⟩, 
  ⟨⟨(some 40), none, (.pick (.t 23) (.t 39) (.k (.bool false)))⟩, .pure, [], []⟩]) (.cond (.t 40) (.reg [⟨(some 41), none, (.mv (.t 11))⟩, 
  ⟨(some 42), none, (.bin .add (.t 41) (.k (.int .i64 1)))⟩, ⟨(some 11), none, (.mv (.t 42))⟩]) .skip)) (.seq (.seq (.drw 0 [⟨⟨(some 43), none, (.mv (.t 4))⟩, .pure, [], []⟩, 
  ⟨⟨(some 44), none, (.mv (.t 0))⟩, .pure, [], []⟩, ⟨⟨(some 45), none, (.mv (.t 3))⟩, .pure, [], []⟩, ⟨⟨(some 46), none, (.mv (.t 10))⟩, .pure, [], []⟩, 
  ⟨⟨(some 47), none, (.bin .add (.t 45) (.t 46))⟩, .pure, [], []⟩, ⟨⟨(some 48), none, (.ixa 2 (.t 44) (.t 47))⟩, .pure, [], []⟩, 
  ⟨⟨(some 49), none, (.ld (some 2) (.t 48))⟩, .ld, [], []⟩, ⟨⟨(some 50), none, (.mv (.t 0))⟩, .pure, [6], []⟩, ⟨⟨(some 51), none, (.mv (.t 3))⟩, .pure, [6], []⟩, 
  ⟨⟨(some 52), none, (.mv (.t 11))⟩, .pure, [6], []⟩, ⟨⟨(some 53), none, (.bin .add (.t 51) (.t 52))⟩, .pure, [6], []⟩, 
  ⟨⟨(some 54), none, (.ixa 2 (.t 50) (.t 53))⟩, .pure, [6], []⟩, ⟨⟨(some 55), none, (.ld (some 2) (.t 54))⟩, .ld, [], []⟩, 
  ⟨⟨(some 56), none, (.calld (.t 43) [(.t 49), (.t 55)])⟩, .eff, [], []⟩, ⟨⟨(some 57), none, (.bin .lss (.t 56) (.k (.int .i64 0)))⟩, .pure, [], []⟩, 
  ⟨⟨(some 58), none, (.un .not (.t 57))⟩, .pure, [], []⟩]) (.cond (.t 58) .ret .skip)) (.seq (.drw 0 [⟨⟨(some 59), none, (.mv (.t 0))⟩, .pure, [], []⟩, 
  ⟨⟨(some 60), none, (.mv (.t 3))⟩, .pure, [], []⟩, ⟨⟨(some 61), none, (.mv (.t 10))⟩, .pure, [], []⟩, ⟨⟨(some 62), none, (.bin .add (.t 60) (.t 61))⟩, .pure, [], []⟩, 
  ⟨⟨(some 63), none, (.mv (.t 0))⟩, .pure, [], []⟩, ⟨⟨(some 64), none, (.mv (.t 3))⟩, .pure, [], []⟩, ⟨⟨(some 65), none, (.mv (.t 11))⟩, .pure, [], []⟩, 
  ⟨⟨(some 66), none, (.bin .add (.t 64) (.t 65))⟩, .pure, [], []⟩, ⟨⟨(some 67), none, (.mv (.t 0))⟩, .pure, [], []⟩, ⟨⟨(some 68), none, (.mv (.t 3))⟩, .pure, [], []⟩, 
  ⟨⟨(some 69), none, (.mv (.t 11))⟩, .pure, [], []⟩, ⟨⟨(some 70), none, (.bin .add (.t 68) (.t 69))⟩, .pure, [], []⟩, ⟨⟨(some 71), none, (.ixa 2 (.t 67) (.t 70))⟩, .pure, [], []⟩, 
  ⟨⟨(some 72), none, (.ld (some 2) (.t 71))⟩, .ld, [], []⟩, ⟨⟨(some 73), none, (.mv (.t 0))⟩, .pure, [13], []⟩, ⟨⟨(some 74), none, (.mv (.t 3))⟩, .pure, [13], []⟩, 
  ⟨⟨(some 75), none, (.mv (.t 10))⟩, .pure, [13], []⟩, ⟨⟨(some 76), none, (.bin .add (.t 74) (.t 75))⟩, .pure, [13], []⟩, 
  ⟨⟨(some 77), none, (.ixa 2 (.t 73) (.t 76))⟩, .pure, [13], []⟩, ⟨⟨(some 78), none, (.ld (some 2) (.t 77))⟩, .ld, [], []⟩, 
  ⟨⟨(some 79), none, (.ixa 2 (.t 59) (.t 62))⟩, .pure, [], []⟩, ⟨⟨none, none, (.st (some 2) (.t 79) (.t 72))⟩, .eff, [], []⟩, 
  ⟨⟨(some 80), none, (.ixa 2 (.t 63) (.t 66))⟩, .pure, [], []⟩, ⟨⟨none, none, (.st (some 2) (.t 80) (.t 78))⟩, .eff, [], []⟩]) (.reg [⟨(some 81), none, (.mv (.t 11))⟩, 
  ⟨(some 10), none, (.mv (.t 81))⟩]))))))))))⟩
theorem c_slices_siftDownCmpFunc_Addr : compF Try.prog ⟨some 71, some 43⟩ Try.f88 = some r_slices_siftDownCmpFunc_Addr := by kernel_rfl
/-- slices.nextPowerOfTwo -/
def r_slices_nextPowerOfTwo : RF :=
  ⟨7, [(.tmp 2)], (.seq (.reg [⟨(some 2), none, (.mv (.k (.int .u64 0)))⟩]) (.seq (.reg [⟨(some 3), none, (.mv (.t 0))⟩, ⟨(some 4), none, (.cvi .u64 (.t 3))⟩, 
  ⟨(some 5), none, (.call f_bits_Len [(.t 4)])⟩, ⟨(some 6), none, (.bin .shl (.k (.int .u64 1)) (.t 5))⟩, ⟨(some 2), none, (.mv (.t 6))⟩]) .ret))⟩
theorem c_slices_nextPowerOfTwo : compF Try.prog ⟨some 71, some 43⟩ Try.f89 = some r_slices_nextPowerOfTwo := by kernel_rfl
/-- (*slices.xorshift).Next -/
def r_slices_xorshift_Next : RF :=
  ⟨33, [(.tmp 2)], (.seq (.reg [⟨(some 2), none, (.mv (.k (.int .u64 0)))⟩]) (.seq (.drw 0 [⟨⟨(some 3), none, (.mv (.t 0))⟩, .pure, [], []⟩, 
  ⟨⟨(some 4), none, (.nck (.t 3))⟩, .pure, [], []⟩, ⟨⟨(some 5), none, (.ld none (.t 4))⟩, .ld, [], []⟩, ⟨⟨(some 6), none, (.mv (.t 0))⟩, .pure, [2], []⟩, 
  ⟨⟨(some 7), none, (.nck (.t 6))⟩, .pure, [2], []⟩, ⟨⟨(some 8), none, (.ld none (.t 7))⟩, .ld, [], []⟩, ⟨⟨(some 9), none, (.bin .shl (.t 8) (.k (.int .u64 13)))⟩, .pure, [2], []⟩, 
  ⟨⟨(some 10), none, (.bin .xor (.t 5) (.t 9))⟩, .pure, [], []⟩, ⟨⟨(some 11), none, (.nck (.t 3))⟩, .pure, [], []⟩, ⟨⟨none, none, (.st none (.t 11) (.t 10))⟩, .eff, [], []⟩]) (.seq 
  (.drw 0 [⟨⟨(some 12), none, (.mv (.t 0))⟩, .pure, [], []⟩, ⟨⟨(some 13), none, (.nck (.t 12))⟩, .pure, [], []⟩, ⟨⟨(some 14), none, (.ld none (.t 13))⟩, .ld, [], []⟩, 
  ⟨⟨(some 15), none, (.mv (.t 0))⟩, .pure, [2], []⟩, ⟨⟨(some 16), none, (.nck (.t 15))⟩, .pure, [2], []⟩, ⟨⟨(some 17), none, (.ld none (.t 16))⟩, .ld, [], []⟩, 
  ⟨⟨(some 18), none, (.bin .shr (.t 17) (.k (.int .u64 7)))⟩, .pure, [2], []⟩, ⟨⟨(some 19), none, (.bin .xor (.t 14) (.t 18))⟩, .pure, [], []⟩, 
  ⟨⟨(some 20), none, (.nck (.t 12))⟩, .pure, [], []⟩, ⟨⟨none, none, (.st none (.t 20) (.t 19))⟩, .eff, [], []⟩]) (.seq (.drw 0 [⟨⟨(some 21), none, (.mv (.t 0))⟩, .pure, [], []⟩, 
  ⟨⟨(some 22), none, (.nck (.t 21))⟩, .pure, [], []⟩, ⟨⟨(some 23), none, (.ld none (.t 22))⟩, .ld, [], []⟩, ⟨⟨(some 24), none, (.mv (.t 0))⟩, .pure, [2], []⟩, 
  ⟨⟨(some 25), none, (.nck (.t 24))⟩, .pure, [2], []⟩, ⟨⟨(some 26), none, (.ld none (.t 25))⟩, .ld, [], []⟩, 
  ⟨⟨(some 27), none, (.bin .shl (.t 26) (.k (.int .u64 17)))⟩, .pure, [2], []⟩, ⟨⟨(some 28), none, (.bin .xor (.t 23) (.t 27))⟩, .pure, [], []⟩, 
  ⟨⟨(some 29), none, (.nck (.t 21))⟩, .pure, [], []⟩, ⟨⟨none, none, (.st none (.t 29) (.t 28))⟩, .eff, [], []⟩]) (.seq (.reg [⟨(some 30), none, (.mv (.t 0))⟩, 
  ⟨(some 31), none, (.nck (.t 30))⟩, ⟨(some 32), none, (.ld none (.t 31))⟩, ⟨(some 2), none, (.mv (.t 32))⟩]) .ret)))))⟩
theorem c_slices_xorshift_Next : compF Try.prog ⟨some 71, some 43⟩ Try.f90 = some r_slices_xorshift_Next := by kernel_rfl
/-- slices.medianAdjacentCmpFunc[tenancy/api.Addr] -/
def r_slices_medianAdjacentCmpFunc_Addr : RF :=
  ⟨18, [(.tmp 8)], (.seq (.reg [⟨(some 8), none, (.mv (.k (.int .i64 0)))⟩]) (.seq (.reg [⟨(some 9), none, (.mv (.t 0))⟩, ⟨(some 10), none, (.mv (.t 1))⟩, 
  ⟨(some 11), none, (.bin .sub (.t 10) (.k (.int .i64 1)))⟩, ⟨(some 12), none, (.mv (.t 1))⟩, ⟨(some 13), none, (.mv (.t 1))⟩, 
  ⟨(some 14), none, (.bin .add (.t 13) (.k (.int .i64 1)))⟩, ⟨(some 15), none, (.mv (.t 2))⟩, ⟨(some 16), none, (.mv (.t 3))⟩, 
  ⟨(some 17), none, (.call f_slices_medianCmpFunc_Addr [(.t 9), (.t 11), (.t 12), (.t 14), (.t 15), (.t 16)])⟩, ⟨(some 8), none, (.mv (.t 17))⟩]) .ret))⟩
theorem c_slices_medianAdjacentCmpFunc_Addr : compF Try.prog ⟨some 71, some 43⟩ Try.f91 = some r_slices_medianAdjacentCmpFunc_Addr := by kernel_rfl
/-- slices.medianCmpFunc[tenancy/api.Addr] -/
def r_slices_medianCmpFunc_Addr : RF :=
  ⟨41, [(.tmp 12)], (.seq (.reg [⟨(some 12), none, (.mv (.k (.int .i64 0)))⟩]) (.seq (.reg [⟨(some 14), none, (.mv (.t 0))⟩, ⟨(some 15), none, (.mv (.t 1))⟩, 
  ⟨(some 16), none, (.mv (.t 2))⟩, ⟨(some 17), none, (.mv (.t 4))⟩, ⟨(some 18), none, (.mv (.t 5))⟩, 
  ⟨(some 19), none, (.call f_slices_order2CmpFunc_Addr [(.t 14), (.t 15), (.t 16), (.t 17), (.t 18)])⟩, ⟨(some 13), none, (.mv (.t 19))⟩, ⟨(some 20), none, (.ext 0 (.t 13))⟩, 
  ⟨(some 21), none, (.ext 1 (.t 13))⟩, ⟨(some 1), none, (.mv (.t 20))⟩, ⟨(some 2), none, (.mv (.t 21))⟩]) (.seq (.reg [⟨(some 23), none, (.mv (.t 0))⟩, 
  ⟨(some 24), none, (.mv (.t 2))⟩, ⟨(some 25), none, (.mv (.t 3))⟩, ⟨(some 26), none, (.mv (.t 4))⟩, ⟨(some 27), none, (.mv (.t 5))⟩, 
  ⟨(some 28), none, (.call f_slices_order2CmpFunc_Addr [(.t 23), (.t 24), (.t 25), (.t 26), (.t 27)])⟩, ⟨(some 22), none, (.mv (.t 28))⟩, ⟨(some 29), none, (.ext 0 (.t 22))⟩, 
  ⟨(some 30), none, (.ext 1 (.t 22))⟩, ⟨(some 2), none, (.mv (.t 29))⟩, ⟨(some 3), none, (.mv (.t 30))⟩]) (.seq (.reg [⟨(some 32), none, (.mv (.t 0))⟩, 
  ⟨(some 33), none, (.mv (.t 1))⟩, ⟨(some 34), none, (.mv (.t 2))⟩, ⟨(some 35), none, (.mv (.t 4))⟩, ⟨(some 36), none, (.mv (.t 5))⟩, 
  ⟨(some 37), none, (.call f_slices_order2CmpFunc_Addr [(.t 32), (.t 33), (.t 34), (.t 35), (.t 36)])⟩, ⟨(some 31), none, (.mv (.t 37))⟩, ⟨(some 38), none, (.ext 0 (.t 31))⟩, 
  ⟨(some 39), none, (.ext 1 (.t 31))⟩, ⟨(some 1), none, (.mv (.t 38))⟩, ⟨(some 2), none, (.mv (.t 39))⟩]) (.seq (.reg [⟨(some 40), none, (.mv (.t 2))⟩, 
  ⟨(some 12), none, (.mv (.t 40))⟩]) .ret)))))⟩
theorem c_slices_medianCmpFunc_Addr : compF Try.prog ⟨some 71, some 43⟩ Try.f92 = some r_slices_medianCmpFunc_Addr := by kernel_rfl
/-- slices.order2CmpFunc[tenancy/api.Addr] -/
def r_slices_order2CmpFunc_Addr : RF :=
  ⟨32, [(.tmp 10), (.tmp 11)], (.seq (.reg [⟨(some 10), none, (.mv (.k (.int .i64 0)))⟩, ⟨(some 11), none, (.mv (.k (.int .i64 0)))⟩]) (.seq (.seq 
  (.drw 0 [⟨⟨(some 12), none, (.mv (.t 4))⟩, .pure, [], []⟩, ⟨⟨(some 13), none, (.mv (.t 0))⟩, .pure, [], []⟩, ⟨⟨(some 14), none, (.mv (.t 2))⟩, .pure, [], []⟩, 
  ⟨⟨(some 15), none, (.ixa 2 (.t 13) (.t 14))⟩, .pure, [], []⟩, ⟨⟨(some 16), none, (.ld (some 2) (.t 15))⟩, .ld, [], []⟩, ⟨⟨(some 17), none, (.mv (.t 0))⟩, .pure, [4], []⟩, 
  ⟨⟨(some 18), none, (.mv (.t 1))⟩, .pure, [4], []⟩, ⟨⟨(some 19), none, (.ixa 2 (.t 17) (.t 18))⟩, .pure, [4], []⟩, ⟨⟨(some 20), none, (.ld (some 2) (.t 19))⟩, .ld, [], []⟩, 
  ⟨⟨(some 21), none, (.calld (.t 12) [(.t 16), (.t 20)])⟩, .eff, [], []⟩, ⟨⟨(some 22), none, (.bin .lss (.t 21) (.k (.int .i64 0)))⟩, .pure, [], []⟩]) (.cond (.t 22) (.seq 
  (.reg [⟨(some 23), none, (.mv (.t 3))⟩, ⟨(some 24), none, (.nck (.t 23))⟩, ⟨(some 25), none, (.ld none (.t 24))⟩, ⟨(some 26), none, (.bin .add (.t 25) (.k (.int .i64 1)))⟩, 
  ⟨(some 27), none, (.nck (.t 23))⟩, ⟨none, none, (.st none (.t 27) (.t 26))⟩]) (.seq (.reg [⟨(some 28), none, (.mv (.t 2))⟩, ⟨(some 29), none, (.mv (.t 1))⟩, 
  ⟨(some 10), none, (.mv (.t 28))⟩, ⟨(some 11), none, (.mv (.t 29))⟩]) .ret)) .skip)) (.seq (.reg [⟨(some 30), none, (.mv (.t 1))⟩, ⟨(some 31), none, (.mv (.t 2))⟩, 
  ⟨(some 10), none, (.mv (.t 30))⟩, ⟨(some 11), none, (.mv (.t 31))⟩]) .ret)))⟩
theorem c_slices_order2CmpFunc_Addr : compF Try.prog ⟨some 71, some 43⟩ Try.f93 = some r_slices_order2CmpFunc_Addr := by kernel_rfl
def ex0 : Ex := ⟨some 71, some 43⟩
def tbl : List (Nat × RF) := [(f_gosem_cut_init, r_gosem_cut_init), (f_w12_PoolExact, r_w12_PoolExact), (f_w12_PoolOwns, r_w12_PoolOwns), (f_w12_PoolMemory, r_w12_PoolMemory), (f_w12_PoolAll, r_w12_PoolAll), (f_w12_PoolPicks, r_w12_PoolPicks), (f_w12_awake, r_w12_awake), (f_pool_Build, r_pool_Build), (f_r12_Build, r_r12_Build), (f_w12_same, r_w12_same), (f_pool_Free, r_pool_Free), (f_r12_Free, r_r12_Free), (f_pool_Pick, r_pool_Pick), (f_r12_Pick, r_r12_Pick), (f_w12_list, r_w12_list), (f_pool_Own, r_pool_Own), (f_r12_Own, r_r12_Own), (f_w12_small, r_w12_small), (f_span_Count, r_span_Count), (f_span_Rank, r_span_Rank), (f_addr_Sub, r_addr_Sub), (f_span_Sound, r_span_Sound), (f_addr_Cmp, r_addr_Cmp), (f_span_Has, r_span_Has), (f_w12_few, r_w12_few), (f_span_Put, r_span_Put), (f_r03_Put, r_r03_Put), (f_r12_less, r_r12_less), (f_span_Less, r_span_Less), (f_r03_Sound, r_r03_Sound), (f_addr_Mod, r_addr_Mod), (f_span_Nth, r_span_Nth), (f_r03_Count, r_r03_Count), (f_r01_Mod, r_r01_Mod), (f_r03_Nth, r_r03_Nth), (f_slices_SortFunc_Addr, r_slices_SortFunc_Addr), (f_slices_Compact_Addr, r_slices_Compact_Addr), (f_r12_with, r_r12_with), (f_addr_Add, r_addr_Add), (f_span_one, r_span_one), (f_span_Drop, r_span_Drop), (f_span_isRange, r_span_isRange), (f_span_apart, r_span_apart), (f_cmp_Or_int, r_cmp_Or_int), (f_cmp_Compare_uint64, r_cmp_Compare_uint64), (f_slices_ContainsFunc_Range, r_slices_ContainsFunc_Range), (f_span_Has_1, r_span_Has_1), (f_span_below, r_span_below), (f_slices_Concat_Range, r_slices_Concat_Range), (f_r03_le, r_r03_le), (f_r03_made, r_r03_made), (f_r03_Drop, r_r03_Drop), (f_r12_one, r_r12_one), (f_slices_Clone_Range, r_slices_Clone_Range), (f_r03_next, r_r03_next), (f_bits_Div64, r_bits_Div64), (f_bits_LeadingZeros64, r_bits_LeadingZeros64), (f_addr_Up, r_addr_Up), (f_r01_Add, r_r01_Add), (f_r03_size, r_r03_size), (f_r01_bit, r_r01_bit), (f_r01_Up, r_r01_Up), (f_r01_with, r_r01_with), (f_r01_Cmp, r_r01_Cmp), (f_r01_Sub, r_r01_Sub), (f_r03_ahead, r_r03_ahead), (f_slices_pdqsortCmpFunc_Addr, r_slices_pdqsortCmpFunc_Addr), (f_bits_Len, r_bits_Len), (f_cmp_isNaN_uint64, r_cmp_isNaN_uint64), (f_slices_IndexFunc_Range, r_slices_IndexFunc_Range), (f_slices_Grow_Range, r_slices_Grow_Range), (f_r03_edges, r_r03_edges), (f_r03_in, r_r03_in), (f_bits_Len64, r_bits_Len64), (f_slices_insertionSortCmpFunc_Addr, r_slices_insertionSortCmpFunc_Addr), (f_slices_heapSortCmpFunc_Addr, r_slices_heapSortCmpFunc_Addr), (f_slices_breakPatternsCmpFunc_Addr, r_slices_breakPatternsCmpFunc_Addr), (f_slices_choosePivotCmpFunc_Addr, r_slices_choosePivotCmpFunc_Addr), (f_slices_reverseRangeCmpFunc_Addr, r_slices_reverseRangeCmpFunc_Addr), (f_slices_partialInsertionSortCmpFunc_Addr, r_slices_partialInsertionSortCmpFunc_Addr), (f_slices_partitionEqualCmpFunc_Addr, r_slices_partitionEqualCmpFunc_Addr), (f_slices_partitionCmpFunc_Addr, r_slices_partitionCmpFunc_Addr), (f_bits_Len32, r_bits_Len32), (f_r03_with, r_r03_with), (f_slices_siftDownCmpFunc_Addr, r_slices_siftDownCmpFunc_Addr), (f_slices_nextPowerOfTwo, r_slices_nextPowerOfTwo), (f_slices_xorshift_Next, r_slices_xorshift_Next), (f_slices_medianAdjacentCmpFunc_Addr, r_slices_medianAdjacentCmpFunc_Addr), (f_slices_medianCmpFunc_Addr, r_slices_medianCmpFunc_Addr), (f_slices_order2CmpFunc_Addr, r_slices_order2CmpFunc_Addr)]
def T (f : Nat) : Option RF := tbl.lookup f
theorem lookup_mem {f : Nat} {F : RF} : ∀ {l : List (Nat × RF)}, l.lookup f = some F → (f, F) ∈ l
  | [], h => by simp at h
  | (g, G) :: l, h => by
    simp only [List.lookup] at h
    split at h
    · rename_i he; simp at he h; subst he; subst h; simp
    · exact List.mem_cons_of_mem _ (lookup_mem h)
structure TF (x : Nat × RF) : Prop where
  ok : ∃ fn, Try.prog.funcs[x.1]? = some fn ∧ (fn.name == "runtime.NumGoroutine") = false ∧ compF Try.prog ex0 fn = some x.2
theorem k_gosem_cut_init : TF (f_gosem_cut_init, r_gosem_cut_init) := ⟨Try.f2, Try.func2, by kernel_rfl, c_gosem_cut_init⟩
theorem k_w12_PoolExact : TF (f_w12_PoolExact, r_w12_PoolExact) := ⟨Try.f3, Try.func3, by kernel_rfl, c_w12_PoolExact⟩
theorem k_w12_PoolOwns : TF (f_w12_PoolOwns, r_w12_PoolOwns) := ⟨Try.f4, Try.func4, by kernel_rfl, c_w12_PoolOwns⟩
theorem k_w12_PoolMemory : TF (f_w12_PoolMemory, r_w12_PoolMemory) := ⟨Try.f5, Try.func5, by kernel_rfl, c_w12_PoolMemory⟩
theorem k_w12_PoolAll : TF (f_w12_PoolAll, r_w12_PoolAll) := ⟨Try.f6, Try.func6, by kernel_rfl, c_w12_PoolAll⟩
theorem k_w12_PoolPicks : TF (f_w12_PoolPicks, r_w12_PoolPicks) := ⟨Try.f7, Try.func7, by kernel_rfl, c_w12_PoolPicks⟩
theorem k_w12_awake : TF (f_w12_awake, r_w12_awake) := ⟨Try.f8, Try.func8, by kernel_rfl, c_w12_awake⟩
theorem k_pool_Build : TF (f_pool_Build, r_pool_Build) := ⟨Try.f9, Try.func9, by kernel_rfl, c_pool_Build⟩
theorem k_r12_Build : TF (f_r12_Build, r_r12_Build) := ⟨Try.f10, Try.func10, by kernel_rfl, c_r12_Build⟩
theorem k_w12_same : TF (f_w12_same, r_w12_same) := ⟨Try.f11, Try.func11, by kernel_rfl, c_w12_same⟩
theorem k_pool_Free : TF (f_pool_Free, r_pool_Free) := ⟨Try.f12, Try.func12, by kernel_rfl, c_pool_Free⟩
theorem k_r12_Free : TF (f_r12_Free, r_r12_Free) := ⟨Try.f13, Try.func13, by kernel_rfl, c_r12_Free⟩
theorem k_pool_Pick : TF (f_pool_Pick, r_pool_Pick) := ⟨Try.f14, Try.func14, by kernel_rfl, c_pool_Pick⟩
theorem k_r12_Pick : TF (f_r12_Pick, r_r12_Pick) := ⟨Try.f15, Try.func15, by kernel_rfl, c_r12_Pick⟩
theorem k_w12_list : TF (f_w12_list, r_w12_list) := ⟨Try.f16, Try.func16, by kernel_rfl, c_w12_list⟩
theorem k_pool_Own : TF (f_pool_Own, r_pool_Own) := ⟨Try.f17, Try.func17, by kernel_rfl, c_pool_Own⟩
theorem k_r12_Own : TF (f_r12_Own, r_r12_Own) := ⟨Try.f18, Try.func18, by kernel_rfl, c_r12_Own⟩
theorem k_w12_small : TF (f_w12_small, r_w12_small) := ⟨Try.f19, Try.func19, by kernel_rfl, c_w12_small⟩
theorem k_span_Count : TF (f_span_Count, r_span_Count) := ⟨Try.f20, Try.func20, by kernel_rfl, c_span_Count⟩
theorem k_span_Rank : TF (f_span_Rank, r_span_Rank) := ⟨Try.f21, Try.func21, by kernel_rfl, c_span_Rank⟩
theorem k_addr_Sub : TF (f_addr_Sub, r_addr_Sub) := ⟨Try.f22, Try.func22, by kernel_rfl, c_addr_Sub⟩
theorem k_span_Sound : TF (f_span_Sound, r_span_Sound) := ⟨Try.f23, Try.func23, by kernel_rfl, c_span_Sound⟩
theorem k_addr_Cmp : TF (f_addr_Cmp, r_addr_Cmp) := ⟨Try.f24, Try.func24, by kernel_rfl, c_addr_Cmp⟩
theorem k_span_Has : TF (f_span_Has, r_span_Has) := ⟨Try.f25, Try.func25, by kernel_rfl, c_span_Has⟩
theorem k_w12_few : TF (f_w12_few, r_w12_few) := ⟨Try.f26, Try.func26, by kernel_rfl, c_w12_few⟩
theorem k_span_Put : TF (f_span_Put, r_span_Put) := ⟨Try.f27, Try.func27, by kernel_rfl, c_span_Put⟩
theorem k_r03_Put : TF (f_r03_Put, r_r03_Put) := ⟨Try.f28, Try.func28, by kernel_rfl, c_r03_Put⟩
theorem k_r12_less : TF (f_r12_less, r_r12_less) := ⟨Try.f29, Try.func29, by kernel_rfl, c_r12_less⟩
theorem k_span_Less : TF (f_span_Less, r_span_Less) := ⟨Try.f30, Try.func30, by kernel_rfl, c_span_Less⟩
theorem k_r03_Sound : TF (f_r03_Sound, r_r03_Sound) := ⟨Try.f31, Try.func31, by kernel_rfl, c_r03_Sound⟩
theorem k_addr_Mod : TF (f_addr_Mod, r_addr_Mod) := ⟨Try.f32, Try.func32, by kernel_rfl, c_addr_Mod⟩
theorem k_span_Nth : TF (f_span_Nth, r_span_Nth) := ⟨Try.f33, Try.func33, by kernel_rfl, c_span_Nth⟩
theorem k_r03_Count : TF (f_r03_Count, r_r03_Count) := ⟨Try.f34, Try.func34, by kernel_rfl, c_r03_Count⟩
theorem k_r01_Mod : TF (f_r01_Mod, r_r01_Mod) := ⟨Try.f35, Try.func35, by kernel_rfl, c_r01_Mod⟩
theorem k_r03_Nth : TF (f_r03_Nth, r_r03_Nth) := ⟨Try.f36, Try.func36, by kernel_rfl, c_r03_Nth⟩
theorem k_slices_SortFunc_Addr : TF (f_slices_SortFunc_Addr, r_slices_SortFunc_Addr) := ⟨Try.f37, Try.func37, by kernel_rfl, c_slices_SortFunc_Addr⟩
theorem k_slices_Compact_Addr : TF (f_slices_Compact_Addr, r_slices_Compact_Addr) := ⟨Try.f38, Try.func38, by kernel_rfl, c_slices_Compact_Addr⟩
theorem k_r12_with : TF (f_r12_with, r_r12_with) := ⟨Try.f39, Try.func39, by kernel_rfl, c_r12_with⟩
theorem k_addr_Add : TF (f_addr_Add, r_addr_Add) := ⟨Try.f40, Try.func40, by kernel_rfl, c_addr_Add⟩
theorem k_span_one : TF (f_span_one, r_span_one) := ⟨Try.f41, Try.func41, by kernel_rfl, c_span_one⟩
theorem k_span_Drop : TF (f_span_Drop, r_span_Drop) := ⟨Try.f42, Try.func42, by kernel_rfl, c_span_Drop⟩
theorem k_span_isRange : TF (f_span_isRange, r_span_isRange) := ⟨Try.f44, Try.func44, by kernel_rfl, c_span_isRange⟩
theorem k_span_apart : TF (f_span_apart, r_span_apart) := ⟨Try.f45, Try.func45, by kernel_rfl, c_span_apart⟩
theorem k_cmp_Or_int : TF (f_cmp_Or_int, r_cmp_Or_int) := ⟨Try.f46, Try.func46, by kernel_rfl, c_cmp_Or_int⟩
theorem k_cmp_Compare_uint64 : TF (f_cmp_Compare_uint64, r_cmp_Compare_uint64) := ⟨Try.f47, Try.func47, by kernel_rfl, c_cmp_Compare_uint64⟩
theorem k_slices_ContainsFunc_Range : TF (f_slices_ContainsFunc_Range, r_slices_ContainsFunc_Range) := ⟨Try.f48, Try.func48, by kernel_rfl, c_slices_ContainsFunc_Range⟩
theorem k_span_Has_1 : TF (f_span_Has_1, r_span_Has_1) := ⟨Try.f49, Try.func49, by kernel_rfl, c_span_Has_1⟩
theorem k_span_below : TF (f_span_below, r_span_below) := ⟨Try.f50, Try.func50, by kernel_rfl, c_span_below⟩
theorem k_slices_Concat_Range : TF (f_slices_Concat_Range, r_slices_Concat_Range) := ⟨Try.f51, Try.func51, by kernel_rfl, c_slices_Concat_Range⟩
theorem k_r03_le : TF (f_r03_le, r_r03_le) := ⟨Try.f52, Try.func52, by kernel_rfl, c_r03_le⟩
theorem k_r03_made : TF (f_r03_made, r_r03_made) := ⟨Try.f53, Try.func53, by kernel_rfl, c_r03_made⟩
theorem k_r03_Drop : TF (f_r03_Drop, r_r03_Drop) := ⟨Try.f54, Try.func54, by kernel_rfl, c_r03_Drop⟩
theorem k_r12_one : TF (f_r12_one, r_r12_one) := ⟨Try.f55, Try.func55, by kernel_rfl, c_r12_one⟩
theorem k_slices_Clone_Range : TF (f_slices_Clone_Range, r_slices_Clone_Range) := ⟨Try.f56, Try.func56, by kernel_rfl, c_slices_Clone_Range⟩
theorem k_r03_next : TF (f_r03_next, r_r03_next) := ⟨Try.f57, Try.func57, by kernel_rfl, c_r03_next⟩
theorem k_bits_Div64 : TF (f_bits_Div64, r_bits_Div64) := ⟨Try.f58, Try.func58, by kernel_rfl, c_bits_Div64⟩
theorem k_bits_LeadingZeros64 : TF (f_bits_LeadingZeros64, r_bits_LeadingZeros64) := ⟨Try.f59, Try.func59, by kernel_rfl, c_bits_LeadingZeros64⟩
theorem k_addr_Up : TF (f_addr_Up, r_addr_Up) := ⟨Try.f60, Try.func60, by kernel_rfl, c_addr_Up⟩
theorem k_r01_Add : TF (f_r01_Add, r_r01_Add) := ⟨Try.f61, Try.func61, by kernel_rfl, c_r01_Add⟩
theorem k_r03_size : TF (f_r03_size, r_r03_size) := ⟨Try.f62, Try.func62, by kernel_rfl, c_r03_size⟩
theorem k_r01_bit : TF (f_r01_bit, r_r01_bit) := ⟨Try.f63, Try.func63, by kernel_rfl, c_r01_bit⟩
theorem k_r01_Up : TF (f_r01_Up, r_r01_Up) := ⟨Try.f64, Try.func64, by kernel_rfl, c_r01_Up⟩
theorem k_r01_with : TF (f_r01_with, r_r01_with) := ⟨Try.f65, Try.func65, by kernel_rfl, c_r01_with⟩
theorem k_r01_Cmp : TF (f_r01_Cmp, r_r01_Cmp) := ⟨Try.f66, Try.func66, by kernel_rfl, c_r01_Cmp⟩
theorem k_r01_Sub : TF (f_r01_Sub, r_r01_Sub) := ⟨Try.f67, Try.func67, by kernel_rfl, c_r01_Sub⟩
theorem k_r03_ahead : TF (f_r03_ahead, r_r03_ahead) := ⟨Try.f68, Try.func68, by kernel_rfl, c_r03_ahead⟩
theorem k_slices_pdqsortCmpFunc_Addr : TF (f_slices_pdqsortCmpFunc_Addr, r_slices_pdqsortCmpFunc_Addr) := ⟨Try.f69, Try.func69, by kernel_rfl, c_slices_pdqsortCmpFunc_Addr⟩
theorem k_bits_Len : TF (f_bits_Len, r_bits_Len) := ⟨Try.f70, Try.func70, by kernel_rfl, c_bits_Len⟩
theorem k_cmp_isNaN_uint64 : TF (f_cmp_isNaN_uint64, r_cmp_isNaN_uint64) := ⟨Try.f72, Try.func72, by kernel_rfl, c_cmp_isNaN_uint64⟩
theorem k_slices_IndexFunc_Range : TF (f_slices_IndexFunc_Range, r_slices_IndexFunc_Range) := ⟨Try.f73, Try.func73, by kernel_rfl, c_slices_IndexFunc_Range⟩
theorem k_slices_Grow_Range : TF (f_slices_Grow_Range, r_slices_Grow_Range) := ⟨Try.f74, Try.func74, by kernel_rfl, c_slices_Grow_Range⟩
theorem k_r03_edges : TF (f_r03_edges, r_r03_edges) := ⟨Try.f75, Try.func75, by kernel_rfl, c_r03_edges⟩
theorem k_r03_in : TF (f_r03_in, r_r03_in) := ⟨Try.f76, Try.func76, by kernel_rfl, c_r03_in⟩
theorem k_bits_Len64 : TF (f_bits_Len64, r_bits_Len64) := ⟨Try.f77, Try.func77, by kernel_rfl, c_bits_Len64⟩
theorem k_slices_insertionSortCmpFunc_Addr : TF (f_slices_insertionSortCmpFunc_Addr, r_slices_insertionSortCmpFunc_Addr) := ⟨Try.f78, Try.func78, by kernel_rfl, c_slices_insertionSortCmpFunc_Addr⟩
theorem k_slices_heapSortCmpFunc_Addr : TF (f_slices_heapSortCmpFunc_Addr, r_slices_heapSortCmpFunc_Addr) := ⟨Try.f79, Try.func79, by kernel_rfl, c_slices_heapSortCmpFunc_Addr⟩
theorem k_slices_breakPatternsCmpFunc_Addr : TF (f_slices_breakPatternsCmpFunc_Addr, r_slices_breakPatternsCmpFunc_Addr) := ⟨Try.f80, Try.func80, by kernel_rfl, c_slices_breakPatternsCmpFunc_Addr⟩
theorem k_slices_choosePivotCmpFunc_Addr : TF (f_slices_choosePivotCmpFunc_Addr, r_slices_choosePivotCmpFunc_Addr) := ⟨Try.f81, Try.func81, by kernel_rfl, c_slices_choosePivotCmpFunc_Addr⟩
theorem k_slices_reverseRangeCmpFunc_Addr : TF (f_slices_reverseRangeCmpFunc_Addr, r_slices_reverseRangeCmpFunc_Addr) := ⟨Try.f82, Try.func82, by kernel_rfl, c_slices_reverseRangeCmpFunc_Addr⟩
theorem k_slices_partialInsertionSortCmpFunc_Addr : TF (f_slices_partialInsertionSortCmpFunc_Addr, r_slices_partialInsertionSortCmpFunc_Addr) := ⟨Try.f83, Try.func83, by kernel_rfl, c_slices_partialInsertionSortCmpFunc_Addr⟩
theorem k_slices_partitionEqualCmpFunc_Addr : TF (f_slices_partitionEqualCmpFunc_Addr, r_slices_partitionEqualCmpFunc_Addr) := ⟨Try.f84, Try.func84, by kernel_rfl, c_slices_partitionEqualCmpFunc_Addr⟩
theorem k_slices_partitionCmpFunc_Addr : TF (f_slices_partitionCmpFunc_Addr, r_slices_partitionCmpFunc_Addr) := ⟨Try.f85, Try.func85, by kernel_rfl, c_slices_partitionCmpFunc_Addr⟩
theorem k_bits_Len32 : TF (f_bits_Len32, r_bits_Len32) := ⟨Try.f86, Try.func86, by kernel_rfl, c_bits_Len32⟩
theorem k_r03_with : TF (f_r03_with, r_r03_with) := ⟨Try.f87, Try.func87, by kernel_rfl, c_r03_with⟩
theorem k_slices_siftDownCmpFunc_Addr : TF (f_slices_siftDownCmpFunc_Addr, r_slices_siftDownCmpFunc_Addr) := ⟨Try.f88, Try.func88, by kernel_rfl, c_slices_siftDownCmpFunc_Addr⟩
theorem k_slices_nextPowerOfTwo : TF (f_slices_nextPowerOfTwo, r_slices_nextPowerOfTwo) := ⟨Try.f89, Try.func89, by kernel_rfl, c_slices_nextPowerOfTwo⟩
theorem k_slices_xorshift_Next : TF (f_slices_xorshift_Next, r_slices_xorshift_Next) := ⟨Try.f90, Try.func90, by kernel_rfl, c_slices_xorshift_Next⟩
theorem k_slices_medianAdjacentCmpFunc_Addr : TF (f_slices_medianAdjacentCmpFunc_Addr, r_slices_medianAdjacentCmpFunc_Addr) := ⟨Try.f91, Try.func91, by kernel_rfl, c_slices_medianAdjacentCmpFunc_Addr⟩
theorem k_slices_medianCmpFunc_Addr : TF (f_slices_medianCmpFunc_Addr, r_slices_medianCmpFunc_Addr) := ⟨Try.f92, Try.func92, by kernel_rfl, c_slices_medianCmpFunc_Addr⟩
theorem k_slices_order2CmpFunc_Addr : TF (f_slices_order2CmpFunc_Addr, r_slices_order2CmpFunc_Addr) := ⟨Try.f93, Try.func93, by kernel_rfl, c_slices_order2CmpFunc_Addr⟩
theorem tbl_ok : ∀ x ∈ tbl, TF x := by
  unfold tbl
  simp only [List.forall_mem_cons]
  exact ⟨k_gosem_cut_init, k_w12_PoolExact, k_w12_PoolOwns, k_w12_PoolMemory, k_w12_PoolAll, k_w12_PoolPicks, k_w12_awake, k_pool_Build, k_r12_Build, k_w12_same, k_pool_Free, k_r12_Free, k_pool_Pick, k_r12_Pick, k_w12_list, k_pool_Own, k_r12_Own, k_w12_small, k_span_Count, k_span_Rank, k_addr_Sub, k_span_Sound, k_addr_Cmp, k_span_Has, k_w12_few, k_span_Put, k_r03_Put, k_r12_less, k_span_Less, k_r03_Sound, k_addr_Mod, k_span_Nth, k_r03_Count, k_r01_Mod, k_r03_Nth, k_slices_SortFunc_Addr, k_slices_Compact_Addr, k_r12_with, k_addr_Add, k_span_one, k_span_Drop, k_span_isRange, k_span_apart, k_cmp_Or_int, k_cmp_Compare_uint64, k_slices_ContainsFunc_Range, k_span_Has_1, k_span_below, k_slices_Concat_Range, k_r03_le, k_r03_made, k_r03_Drop, k_r12_one, k_slices_Clone_Range, k_r03_next, k_bits_Div64, k_bits_LeadingZeros64, k_addr_Up, k_r01_Add, k_r03_size, k_r01_bit, k_r01_Up, k_r01_with, k_r01_Cmp, k_r01_Sub, k_r03_ahead, k_slices_pdqsortCmpFunc_Addr, k_bits_Len, k_cmp_isNaN_uint64, k_slices_IndexFunc_Range, k_slices_Grow_Range, k_r03_edges, k_r03_in, k_bits_Len64, k_slices_insertionSortCmpFunc_Addr, k_slices_heapSortCmpFunc_Addr, k_slices_breakPatternsCmpFunc_Addr, k_slices_choosePivotCmpFunc_Addr, k_slices_reverseRangeCmpFunc_Addr, k_slices_partialInsertionSortCmpFunc_Addr, k_slices_partitionEqualCmpFunc_Addr, k_slices_partitionCmpFunc_Addr, k_bits_Len32, k_r03_with, k_slices_siftDownCmpFunc_Addr, k_slices_nextPowerOfTwo, k_slices_xorshift_Next, k_slices_medianAdjacentCmpFunc_Addr, k_slices_medianCmpFunc_Addr, k_slices_order2CmpFunc_Addr, by simp⟩
theorem tok : TOK Try.prog ex0 T := ⟨fun f F h => (tbl_ok _ (lookup_mem h)).ok⟩
theorem exok : ExOK Try.prog ex0 := ⟨fun f h => by
    cases h; exact ⟨Try.f71, Try.func71, by kernel_rfl, by kernel_rfl, by kernel_rfl, by kernel_rfl⟩, fun f h => by
    cases h; exact ⟨Try.f43, Try.func43, by kernel_rfl, by kernel_rfl, by kernel_rfl, by kernel_rfl⟩⟩
theorem mixed : Try.prog.follows .mixedOrders = true := by kernel_rfl
theorem sound : XS Try.prog (Run T) := run_sound exok mixed tok
end Go.Ev
