import Derived.Test.YtljbogpfgeiipaaZBuddyRow2
import Derived.Test.YtljbogpfgeiipaaProg
/-! The functions of the program, compiled. Printed by genfs.py, a program of this session, out of what `compF` comes to. -/
namespace Go.Ev
open Go.Proofs
set_option maxRecDepth 100000
abbrev f_gosem_cut_init : Nat := 2
abbrev f_w11_BuddyExact : Nat := 3
abbrev f_w11_BuddyBack : Nat := 4
abbrev f_w11_BuddyMemory : Nat := 5
abbrev f_w11_BuddyRow : Nat := 6
abbrev f_w11_awake : Nat := 7
abbrev f_buddy_Sound : Nat := 8
abbrev f_r11_Sound : Nat := 9
abbrev f_buddy_Fits : Nat := 10
abbrev f_r11_Fits : Nat := 11
abbrev f_buddy_Take : Nat := 12
abbrev f_r11_Take : Nat := 13
abbrev f_w11_same : Nat := 14
abbrev f_buddy_Reserve : Nat := 15
abbrev f_r11_Reserve : Nat := 16
abbrev f_buddy_Give : Nat := 17
abbrev f_r11_Give : Nat := 18
abbrev f_buddy_Free : Nat := 19
abbrev f_r11_Free : Nat := 20
abbrev f_w11_block : Nat := 21
abbrev f_addr_Sound : Nat := 22
abbrev f_addr_Covers : Nat := 23
abbrev f_w11_apart : Nat := 24
abbrev f_addr_Span : Nat := 25
abbrev f_buddy_buddyOf : Nat := 26
abbrev f_addr_Cmp : Nat := 27
abbrev f_r01_Sound : Nat := 28
abbrev f_r01_Covers : Nat := 29
abbrev f_r01_Cmp : Nat := 30
abbrev f_r01_Meets : Nat := 31
abbrev f_r11_pair : Nat := 32
abbrev f_slices_ContainsFunc_Prefix : Nat := 33
abbrev f_buddy_Fits_1 : Nat := 34
abbrev f_buddy_without : Nat := 35
abbrev f_r11_rest : Nat := 36
abbrev f_slices_IndexFunc_Prefix : Nat := 37
abbrev f_buddy_Reserve_1 : Nat := 38
abbrev f_r11_covered : Nat := 39
abbrev f_buddy_Give_1 : Nat := 40
abbrev f_addr_Meets : Nat := 41
abbrev f_slices_Clone_Prefix : Nat := 42
abbrev f_slices_Index_Prefix : Nat := 43
abbrev f_slices_Delete_Prefix : Nat := 44
abbrev f_addr_Clip : Nat := 45
abbrev f_slices_SortFunc_Prefix : Nat := 46
abbrev f_buddy_compare : Nat := 47
abbrev f_r11_met : Nat := 48
abbrev f_buddy_Free_1 : Nat := 49
abbrev f_addr_Has : Nat := 50
abbrev f_addr_Sub : Nat := 51
abbrev f_addr_Add : Nat := 52
abbrev f_addr_Down : Nat := 53
abbrev f_addr_Halves : Nat := 54
abbrev f_cmp_Or_int : Nat := 55
abbrev f_cmp_Compare_uint64 : Nat := 56
abbrev f_r01_Clip : Nat := 57
abbrev f_r01_Has : Nat := 58
abbrev f_r01_bit : Nat := 59
abbrev f_slices_Concat_Prefix : Nat := 60
abbrev f_buddy_split : Nat := 61
abbrev f_r01_Halves : Nat := 62
abbrev f_addr_Up : Nat := 63
abbrev f_slices_pdqsortCmpFunc_Prefix : Nat := 64
abbrev f_bits_Len : Nat := 65
abbrev f_cmp_isNaN_uint64 : Nat := 68
abbrev f_r01_with : Nat := 69
abbrev f_slices_Grow_Prefix : Nat := 70
abbrev f_slices_insertionSortCmpFunc_Prefix : Nat := 71
abbrev f_slices_heapSortCmpFunc_Prefix : Nat := 72
abbrev f_slices_breakPatternsCmpFunc_Prefix : Nat := 73
abbrev f_slices_choosePivotCmpFunc_Prefix : Nat := 74
abbrev f_slices_reverseRangeCmpFunc_Prefix : Nat := 75
abbrev f_slices_partialInsertionSortCmpFunc_Prefix : Nat := 76
abbrev f_slices_partitionEqualCmpFunc_Prefix : Nat := 77
abbrev f_slices_partitionCmpFunc_Prefix : Nat := 78
abbrev f_bits_Len32 : Nat := 79
abbrev f_bits_Len64 : Nat := 80
abbrev f_slices_siftDownCmpFunc_Prefix : Nat := 81
abbrev f_slices_nextPowerOfTwo : Nat := 82
abbrev f_slices_xorshift_Next : Nat := 83
abbrev f_slices_medianAdjacentCmpFunc_Prefix : Nat := 84
abbrev f_slices_medianCmpFunc_Prefix : Nat := 85
abbrev f_slices_order2CmpFunc_Prefix : Nat := 86
/-- gosem.cut.init -/
def r_gosem_cut_init : RF :=
  ⟨1, [], (.reg [⟨(some 0), none, (.call 1 [])⟩])⟩
theorem c_gosem_cut_init : compF Try.prog ⟨some 67, some 66⟩ Try.f2 = some r_gosem_cut_init := by kernel_rfl
/-- tenancy/tenancylaw11.BuddyExact -/
def r_w11_BuddyExact : RF :=
  ⟨134, [(.tmp 6)], (.seq (.reg [⟨(some 3), none, (.box (some 3) (.t 0))⟩, ⟨(some 5), none, (.box (some 3) (.t 2))⟩, ⟨(some 6), none, (.mv (.k (.bool false)))⟩]) (.seq (.seq 
  (.reg [⟨(some 13), none, (.call f_w11_awake [])⟩, ⟨(some 14), none, (.un .not (.t 13))⟩]) (.cond (.t 14) (.seq (.reg [⟨(some 6), none, (.mv (.k (.bool false)))⟩]) .ret) .skip)) 
  (.seq (.seq (.reg [⟨(some 15), none, (.mv (.t 1))⟩, ⟨(some 16), none, (.lenl (.t 15))⟩, ⟨(some 17), none, (.bin .gtr (.t 16) (.k (.int .i64 40)))⟩]) (.cond (.t 17) (.seq 
  (.reg [⟨(some 6), none, (.mv (.k (.bool true)))⟩]) .ret) .skip)) (.seq (.seq (.drw 0 [⟨⟨(some 18), none, (.ld (some 3) (.t 3))⟩, .ld, [], []⟩, 
  ⟨⟨(some 19), none, (.mv (.t 1))⟩, .pure, [0], []⟩, ⟨⟨(some 20), none, (.call f_buddy_Sound [(.t 18), (.t 19)])⟩, .eff, [], []⟩, 
  ⟨⟨(some 21), none, (.ld (some 3) (.t 3))⟩, .ld, [2], []⟩, ⟨⟨(some 22), none, (.mv (.t 1))⟩, .pure, [0, 3], []⟩, 
  ⟨⟨(some 23), none, (.call f_r11_Sound [(.t 21), (.t 22)])⟩, .eff, [], []⟩, ⟨⟨(some 24), none, (.eq true .b (.t 20) (.t 23))⟩, .pure, [], []⟩, 
  ⟨⟨(some 25), none, (.mv (.t 24))⟩, .pure, [], []⟩, ⟨⟨(some 26), (some (25, false)), (.mv (.t 1))⟩, .pure, [], []⟩, 
  ⟨⟨(some 27), (some (25, false)), (.off 2 (.t 5))⟩, .pure, [], []⟩, ⟨⟨(some 28), (some (25, false)), (.ld none (.t 27))⟩, .ld, [], []⟩, 
  ⟨⟨(some 29), (some (25, false)), (.call f_buddy_Fits [(.t 26), (.t 28)])⟩, .eff, [], []⟩, ⟨⟨(some 30), (some (25, false)), (.mv (.t 1))⟩, .pure, [10], []⟩, 
  ⟨⟨(some 31), (some (25, false)), (.off 2 (.t 5))⟩, .pure, [10], []⟩, ⟨⟨(some 32), (some (25, false)), (.ld none (.t 31))⟩, .ld, [11], []⟩, 
  ⟨⟨(some 33), (some (25, false)), (.call f_r11_Fits [(.t 30), (.t 32)])⟩, .eff, [], []⟩, ⟨⟨(some 34), (some (25, false)), (.eq true .b (.t 29) (.t 33))⟩, .pure, [], []⟩, 
  ⟨⟨(some 35), none, (.pick (.t 25) (.k (.bool true)) (.t 34))⟩, .pure, [], []⟩]) (.cond (.t 35) (.seq (.reg [⟨(some 6), none, (.mv (.k (.bool false)))⟩]) .ret) .skip)) (.seq 
  (.reg [⟨(some 37), none, (.ld (some 3) (.t 3))⟩, ⟨(some 38), none, (.mv (.t 1))⟩, ⟨(some 39), none, (.off 2 (.t 5))⟩, ⟨(some 40), none, (.ld none (.t 39))⟩, 
  ⟨(some 41), none, (.call f_buddy_Take [(.t 37), (.t 38), (.t 40)])⟩, ⟨(some 36), none, (.mv (.t 41))⟩, ⟨(some 42), none, (.ext 0 (.t 36))⟩, ⟨(some 43), none, (.ext 1 (.t 36))⟩, 
  ⟨(some 44), none, (.ext 2 (.t 36))⟩, ⟨(some 8), none, (.new [(.int .u64 0), (.int .u64 0), (.int .i64 0)])⟩, ⟨(some 7), none, (.mv (.t 42))⟩, 
  ⟨none, none, (.st (some 3) (.t 8) (.t 43))⟩, ⟨(some 9), none, (.mv (.t 44))⟩]) (.seq (.reg [⟨(some 46), none, (.ld (some 3) (.t 3))⟩, ⟨(some 47), none, (.mv (.t 1))⟩, 
  ⟨(some 48), none, (.off 2 (.t 5))⟩, ⟨(some 49), none, (.ld none (.t 48))⟩, ⟨(some 50), none, (.call f_r11_Take [(.t 46), (.t 47), (.t 49)])⟩, ⟨(some 45), none, (.mv (.t 50))⟩, 
  ⟨(some 51), none, (.ext 0 (.t 45))⟩, ⟨(some 52), none, (.ext 1 (.t 45))⟩, ⟨(some 53), none, (.ext 2 (.t 45))⟩, 
  ⟨(some 11), none, (.new [(.int .u64 0), (.int .u64 0), (.int .i64 0)])⟩, ⟨(some 10), none, (.mv (.t 51))⟩, ⟨none, none, (.st (some 3) (.t 11) (.t 52))⟩, 
  ⟨(some 12), none, (.mv (.t 53))⟩]) (.seq (.seq (.reg [⟨(some 54), none, (.mv (.t 7))⟩, ⟨(some 55), none, (.mv (.t 10))⟩, ⟨(some 56), none, (.call f_w11_same [(.t 54), (.t 55)])⟩, 
  ⟨(some 57), none, (.un .not (.t 56))⟩, ⟨(some 58), none, (.mv (.t 57))⟩, ⟨(some 59), (some (58, false)), (.ld (some 3) (.t 8))⟩, 
  ⟨(some 60), (some (58, false)), (.ld (some 3) (.t 11))⟩, 
  ⟨(some 61), (some (58, false)), (.eq true (.st (.sub 0 2 (.st (.one 0 .i (.one 1 .i .nil))) (.one 2 .i .nil))) (.t 59) (.t 60))⟩, 
  ⟨(some 62), none, (.pick (.t 58) (.k (.bool true)) (.t 61))⟩, ⟨(some 63), none, (.mv (.t 62))⟩, ⟨(some 64), (some (63, false)), (.mv (.t 9))⟩, 
  ⟨(some 65), (some (63, false)), (.mv (.t 12))⟩, ⟨(some 66), (some (63, false)), (.eq true .i (.t 64) (.t 65))⟩, ⟨(some 67), none, (.pick (.t 63) (.k (.bool true)) (.t 66))⟩]) 
  (.cond (.t 67) (.seq (.reg [⟨(some 6), none, (.mv (.k (.bool false)))⟩]) .ret) .skip)) (.seq (.reg [⟨(some 69), none, (.ld (some 3) (.t 3))⟩, ⟨(some 70), none, (.mv (.t 1))⟩, 
  ⟨(some 71), none, (.ld (some 3) (.t 5))⟩, ⟨(some 72), none, (.call f_buddy_Reserve [(.t 69), (.t 70), (.t 71)])⟩, ⟨(some 68), none, (.mv (.t 72))⟩, 
  ⟨(some 73), none, (.ext 0 (.t 68))⟩, ⟨(some 74), none, (.ext 1 (.t 68))⟩, ⟨(some 7), none, (.mv (.t 73))⟩, ⟨(some 9), none, (.mv (.t 74))⟩]) (.seq 
  (.reg [⟨(some 76), none, (.ld (some 3) (.t 3))⟩, ⟨(some 77), none, (.mv (.t 1))⟩, ⟨(some 78), none, (.ld (some 3) (.t 5))⟩, 
  ⟨(some 79), none, (.call f_r11_Reserve [(.t 76), (.t 77), (.t 78)])⟩, ⟨(some 75), none, (.mv (.t 79))⟩, ⟨(some 80), none, (.ext 0 (.t 75))⟩, ⟨(some 81), none, (.ext 1 (.t 75))⟩, 
  ⟨(some 10), none, (.mv (.t 80))⟩, ⟨(some 12), none, (.mv (.t 81))⟩]) (.seq (.seq (.reg [⟨(some 82), none, (.mv (.t 7))⟩, ⟨(some 83), none, (.mv (.t 10))⟩, 
  ⟨(some 84), none, (.call f_w11_same [(.t 82), (.t 83)])⟩, ⟨(some 85), none, (.un .not (.t 84))⟩, ⟨(some 86), none, (.mv (.t 85))⟩, ⟨(some 87), (some (86, false)), (.mv (.t 9))⟩, 
  ⟨(some 88), (some (86, false)), (.mv (.t 12))⟩, ⟨(some 89), (some (86, false)), (.eq true .i (.t 87) (.t 88))⟩, ⟨(some 90), none, (.pick (.t 86) (.k (.bool true)) (.t 89))⟩]) 
  (.cond (.t 90) (.seq (.reg [⟨(some 6), none, (.mv (.k (.bool false)))⟩]) .ret) .skip)) (.seq (.reg [⟨(some 92), none, (.ld (some 3) (.t 3))⟩, ⟨(some 93), none, (.mv (.t 1))⟩, 
  ⟨(some 94), none, (.ld (some 3) (.t 5))⟩, ⟨(some 95), none, (.call f_buddy_Give [(.t 92), (.t 93), (.t 94)])⟩, ⟨(some 91), none, (.mv (.t 95))⟩, 
  ⟨(some 96), none, (.ext 0 (.t 91))⟩, ⟨(some 97), none, (.ext 1 (.t 91))⟩, ⟨(some 7), none, (.mv (.t 96))⟩, ⟨(some 9), none, (.mv (.t 97))⟩]) (.seq 
  (.reg [⟨(some 99), none, (.ld (some 3) (.t 3))⟩, ⟨(some 100), none, (.mv (.t 1))⟩, ⟨(some 101), none, (.ld (some 3) (.t 5))⟩, 
  ⟨(some 102), none, (.call f_r11_Give [(.t 99), (.t 100), (.t 101)])⟩, ⟨(some 98), none, (.mv (.t 102))⟩, ⟨(some 103), none, (.ext 0 (.t 98))⟩, 
  ⟨(some 104), none, (.ext 1 (.t 98))⟩, ⟨(some 10), none, (.mv (.t 103))⟩, ⟨(some 12), none, (.mv (.t 104))⟩]) (.seq (.seq (.reg [⟨(some 105), none, (.mv (.t 7))⟩, 
  ⟨(some 106), none, (.mv (.t 10))⟩, ⟨(some 107), none, (.call f_w11_same [(.t 105), (.t 106)])⟩, ⟨(some 108), none, (.un .not (.t 107))⟩, ⟨(some 109), none, (.mv (.t 108))⟩, 
  ⟨(some 110), (some (109, false)), (.mv (.t 9))⟩, ⟨(some 111), (some (109, false)), (.mv (.t 12))⟩, ⟨(some 112), (some (109, false)), (.eq true .i (.t 110) (.t 111))⟩, 
  ⟨(some 113), none, (.pick (.t 109) (.k (.bool true)) (.t 112))⟩]) (.cond (.t 113) (.seq (.reg [⟨(some 6), none, (.mv (.k (.bool false)))⟩]) .ret) .skip)) (.seq 
  (.reg [⟨(some 115), none, (.ld (some 3) (.t 3))⟩, ⟨(some 116), none, (.mv (.t 1))⟩, ⟨(some 117), none, (.call f_buddy_Free [(.t 115), (.t 116)])⟩, 
  ⟨(some 114), none, (.mv (.t 117))⟩, ⟨(some 118), none, (.ext 0 (.t 114))⟩, ⟨(some 119), none, (.ext 1 (.t 114))⟩, ⟨(some 7), none, (.mv (.t 118))⟩, 
  ⟨(some 9), none, (.mv (.t 119))⟩]) (.seq (.reg [⟨(some 121), none, (.ld (some 3) (.t 3))⟩, ⟨(some 122), none, (.mv (.t 1))⟩, 
  ⟨(some 123), none, (.call f_r11_Free [(.t 121), (.t 122)])⟩, ⟨(some 120), none, (.mv (.t 123))⟩, ⟨(some 124), none, (.ext 0 (.t 120))⟩, ⟨(some 125), none, (.ext 1 (.t 120))⟩, 
  ⟨(some 10), none, (.mv (.t 124))⟩, ⟨(some 12), none, (.mv (.t 125))⟩]) (.seq (.reg [⟨(some 126), none, (.mv (.t 7))⟩, ⟨(some 127), none, (.mv (.t 10))⟩, 
  ⟨(some 128), none, (.call f_w11_same [(.t 126), (.t 127)])⟩, ⟨(some 129), none, (.mv (.t 128))⟩, ⟨(some 130), (some (129, true)), (.mv (.t 9))⟩, 
  ⟨(some 131), (some (129, true)), (.mv (.t 12))⟩, ⟨(some 132), (some (129, true)), (.eq false .i (.t 130) (.t 131))⟩, 
  ⟨(some 133), none, (.pick (.t 129) (.t 132) (.k (.bool false)))⟩, ⟨(some 6), none, (.mv (.t 133))⟩]) .ret))))))))))))))))⟩
theorem c_w11_BuddyExact : compF Try.prog ⟨some 67, some 66⟩ Try.f3 = some r_w11_BuddyExact := by kernel_rfl
/-- tenancy/tenancylaw11.BuddyBack -/
def r_w11_BuddyBack : RF :=
  ⟨115, [(.tmp 6)], (.seq (.reg [⟨(some 3), none, (.box (some 3) (.t 0))⟩, ⟨(some 5), none, (.box (some 3) (.t 2))⟩, ⟨(some 6), none, (.mv (.k (.bool false)))⟩]) (.seq (.seq 
  (.reg [⟨(some 19), none, (.call f_w11_awake [])⟩, ⟨(some 20), none, (.un .not (.t 19))⟩]) (.cond (.t 20) (.seq (.reg [⟨(some 6), none, (.mv (.k (.bool false)))⟩]) .ret) .skip)) 
  (.seq (.seq (.reg [⟨(some 21), none, (.mv (.t 1))⟩, ⟨(some 22), none, (.lenl (.t 21))⟩, ⟨(some 23), none, (.bin .gtr (.t 22) (.k (.int .i64 40)))⟩]) (.cond (.t 23) (.seq 
  (.reg [⟨(some 6), none, (.mv (.k (.bool true)))⟩]) .ret) .skip)) (.seq (.reg [⟨(some 25), none, (.ld (some 3) (.t 3))⟩, ⟨(some 26), none, (.mv (.t 1))⟩, 
  ⟨(some 27), none, (.call f_buddy_Free [(.t 25), (.t 26)])⟩, ⟨(some 24), none, (.mv (.t 27))⟩, ⟨(some 28), none, (.ext 0 (.t 24))⟩, ⟨(some 29), none, (.ext 1 (.t 24))⟩, 
  ⟨(some 7), none, (.mv (.t 28))⟩, ⟨(some 8), none, (.mv (.t 29))⟩]) (.seq (.reg [⟨(some 30), none, (.mv (.t 1))⟩, ⟨(some 31), none, (.lenl (.t 30))⟩, 
  ⟨(some 32), none, (.mks 3 24 [(.int .u64 0), (.int .u64 0), (.int .i64 0)] (.k (.int .i64 0)) (.t 31))⟩, ⟨(some 9), none, (.mv (.t 32))⟩]) (.seq (.seq 
  (.reg [⟨(some 33), none, (.mv (.t 1))⟩, ⟨(some 34), none, (.lenl (.t 33))⟩, ⟨(some 35), none, (.bin .sub (.t 34) (.k (.int .i64 1)))⟩, ⟨(some 10), none, (.mv (.t 35))⟩]) (.block 0 
  (.loop (.seq (.seq (.reg [⟨(some 36), none, (.mv (.t 10))⟩, ⟨(some 37), none, (.bin .geq (.t 36) (.k (.int .i64 0)))⟩]) (.cond (.t 37) .skip (.exit 0))) (.seq (.block 1 
  (.reg [⟨(some 40), none, (.mv (.t 9))⟩, ⟨(some 41), none, (.mv (.t 1))⟩, ⟨(some 42), none, (.mv (.t 10))⟩, ⟨(some 43), none, (.ixa 3 (.t 41) (.t 42))⟩, 
  ⟨(some 44), none, (.ld (some 3) (.t 43))⟩, ⟨(some 45), none, (.bsl 3 1 [(.int .u64 0), (.int .u64 0), (.int .i64 0)] [(0, (3, (.t 44)))])⟩, 
  ⟨(some 46), none, (.app 3 24 (.t 40) (.t 45))⟩, ⟨(some 9), none, (.mv (.t 46))⟩])) (.reg [⟨(some 38), none, (.mv (.t 10))⟩, 
  ⟨(some 39), none, (.bin .sub (.t 38) (.k (.int .i64 1)))⟩, ⟨(some 10), none, (.mv (.t 39))⟩])))))) (.seq (.reg [⟨(some 48), none, (.ld (some 3) (.t 3))⟩, 
  ⟨(some 49), none, (.mv (.t 9))⟩, ⟨(some 50), none, (.call f_buddy_Free [(.t 48), (.t 49)])⟩, ⟨(some 47), none, (.mv (.t 50))⟩, ⟨(some 51), none, (.ext 0 (.t 47))⟩, 
  ⟨(some 52), none, (.ext 1 (.t 47))⟩, ⟨(some 11), none, (.mv (.t 51))⟩, ⟨(some 12), none, (.mv (.t 52))⟩]) (.seq (.seq (.reg [⟨(some 53), none, (.mv (.t 8))⟩, 
  ⟨(some 54), none, (.mv (.t 12))⟩, ⟨(some 55), none, (.eq true .i (.t 53) (.t 54))⟩, ⟨(some 56), none, (.mv (.t 55))⟩, ⟨(some 57), (some (56, false)), (.mv (.t 7))⟩, 
  ⟨(some 58), (some (56, false)), (.mv (.t 11))⟩, ⟨(some 59), (some (56, false)), (.call f_w11_same [(.t 57), (.t 58)])⟩, ⟨(some 60), (some (56, false)), (.un .not (.t 59))⟩, 
  ⟨(some 61), none, (.pick (.t 56) (.k (.bool true)) (.t 60))⟩]) (.cond (.t 61) (.seq (.reg [⟨(some 6), none, (.mv (.k (.bool false)))⟩]) .ret) .skip)) (.seq (.seq 
  (.reg [⟨(some 62), none, (.mv (.t 8))⟩, ⟨(some 63), none, (.eq true .i (.t 62) (.k (.int .i64 0)))⟩]) (.cond (.t 63) (.seq (.reg [⟨(some 64), none, (.mv (.t 7))⟩, 
  ⟨(some 65), none, (.lenl (.t 64))⟩, ⟨(some 66), none, (.eq false .i (.t 65) (.k (.int .i64 0)))⟩, ⟨(some 6), none, (.mv (.t 66))⟩]) .ret) .skip)) (.seq 
  (.reg [⟨(some 68), none, (.ld (some 3) (.t 3))⟩, ⟨(some 69), none, (.mv (.t 7))⟩, ⟨(some 70), none, (.ld (some 3) (.t 5))⟩, 
  ⟨(some 71), none, (.call f_buddy_Reserve [(.t 68), (.t 69), (.t 70)])⟩, ⟨(some 67), none, (.mv (.t 71))⟩, ⟨(some 72), none, (.ext 0 (.t 67))⟩, ⟨(some 73), none, (.ext 1 (.t 67))⟩, 
  ⟨(some 13), none, (.mv (.t 72))⟩, ⟨(some 8), none, (.mv (.t 73))⟩]) (.seq (.seq (.reg [⟨(some 74), none, (.mv (.t 8))⟩, 
  ⟨(some 75), none, (.eq true .i (.t 74) (.k (.int .i64 0)))⟩]) (.cond (.t 75) (.seq (.reg [⟨(some 76), none, (.mv (.t 13))⟩, ⟨(some 77), none, (.lenl (.t 76))⟩, 
  ⟨(some 78), none, (.eq false .i (.t 77) (.k (.int .i64 0)))⟩, ⟨(some 6), none, (.mv (.t 78))⟩]) .ret) .skip)) (.seq (.reg [⟨(some 80), none, (.ld (some 3) (.t 3))⟩, 
  ⟨(some 81), none, (.mv (.t 13))⟩, ⟨(some 82), none, (.ld (some 3) (.t 5))⟩, ⟨(some 83), none, (.call f_buddy_Give [(.t 80), (.t 81), (.t 82)])⟩, ⟨(some 79), none, (.mv (.t 83))⟩, 
  ⟨(some 84), none, (.ext 0 (.t 79))⟩, ⟨(some 85), none, (.ext 1 (.t 79))⟩, ⟨(some 14), none, (.mv (.t 84))⟩, ⟨(some 8), none, (.mv (.t 85))⟩]) (.seq 
  (.reg [⟨(some 87), none, (.ld (some 3) (.t 3))⟩, ⟨(some 88), none, (.mv (.t 13))⟩, ⟨(some 89), none, (.ld (some 3) (.t 5))⟩, 
  ⟨(some 90), none, (.call f_buddy_Reserve [(.t 87), (.t 88), (.t 89)])⟩, ⟨(some 86), none, (.mv (.t 90))⟩, ⟨(some 91), none, (.ext 0 (.t 86))⟩, ⟨(some 92), none, (.ext 1 (.t 86))⟩, 
  ⟨(some 15), none, (.mv (.t 91))⟩, ⟨(some 16), none, (.mv (.t 92))⟩]) (.seq (.reg [⟨(some 94), none, (.ld (some 3) (.t 3))⟩, ⟨(some 95), none, (.mv (.t 7))⟩, 
  ⟨(some 96), none, (.ld (some 3) (.t 5))⟩, ⟨(some 97), none, (.call f_buddy_Give [(.t 94), (.t 95), (.t 96)])⟩, ⟨(some 93), none, (.mv (.t 97))⟩, 
  ⟨(some 98), none, (.ext 0 (.t 93))⟩, ⟨(some 99), none, (.ext 1 (.t 93))⟩, ⟨(some 17), none, (.mv (.t 98))⟩, ⟨(some 18), none, (.mv (.t 99))⟩]) (.seq 
  (.reg [⟨(some 100), none, (.mv (.t 8))⟩, ⟨(some 101), none, (.eq false .i (.t 100) (.k (.int .i64 0)))⟩, ⟨(some 102), none, (.mv (.t 101))⟩, 
  ⟨(some 103), (some (102, true)), (.mv (.t 14))⟩, ⟨(some 104), (some (102, true)), (.mv (.t 7))⟩, ⟨(some 105), (some (102, true)), (.call f_w11_same [(.t 103), (.t 104)])⟩, 
  ⟨(some 106), none, (.pick (.t 102) (.t 105) (.k (.bool false)))⟩, ⟨(some 107), none, (.mv (.t 106))⟩, ⟨(some 108), (some (107, true)), (.mv (.t 16))⟩, 
  ⟨(some 109), (some (107, true)), (.eq false .i (.t 108) (.k (.int .i64 110)))⟩, ⟨(some 110), none, (.pick (.t 107) (.t 109) (.k (.bool false)))⟩, 
  ⟨(some 111), none, (.mv (.t 110))⟩, ⟨(some 112), (some (111, true)), (.mv (.t 18))⟩, ⟨(some 113), (some (111, true)), (.eq false .i (.t 112) (.k (.int .i64 110)))⟩, 
  ⟨(some 114), none, (.pick (.t 111) (.t 113) (.k (.bool false)))⟩, ⟨(some 6), none, (.mv (.t 114))⟩]) .ret)))))))))))))))⟩
theorem c_w11_BuddyBack : compF Try.prog ⟨some 67, some 66⟩ Try.f4 = some r_w11_BuddyBack := by kernel_rfl
/-- tenancy/tenancylaw11.BuddyMemory -/
def r_w11_BuddyMemory : RF :=
  ⟨172, [(.tmp 6)], (.seq (.reg [⟨(some 3), none, (.box (some 3) (.t 0))⟩, ⟨(some 5), none, (.box (some 3) (.t 2))⟩, ⟨(some 6), none, (.mv (.k (.bool false)))⟩]) (.seq (.seq 
  (.reg [⟨(some 26), none, (.call f_w11_awake [])⟩, ⟨(some 27), none, (.un .not (.t 26))⟩]) (.cond (.t 27) (.seq (.reg [⟨(some 6), none, (.mv (.k (.bool false)))⟩]) .ret) .skip)) 
  (.seq (.seq (.reg [⟨(some 28), none, (.mv (.t 1))⟩, ⟨(some 29), none, (.lenl (.t 28))⟩, ⟨(some 30), none, (.bin .gtr (.t 29) (.k (.int .i64 40)))⟩]) (.cond (.t 30) (.seq 
  (.reg [⟨(some 6), none, (.mv (.k (.bool true)))⟩]) .ret) .skip)) (.seq (.reg [⟨(some 32), none, (.ld (some 3) (.t 3))⟩, ⟨(some 33), none, (.mv (.t 1))⟩, 
  ⟨(some 34), none, (.call f_buddy_Free [(.t 32), (.t 33)])⟩, ⟨(some 31), none, (.mv (.t 34))⟩, ⟨(some 35), none, (.ext 0 (.t 31))⟩, ⟨(some 36), none, (.ext 1 (.t 31))⟩, 
  ⟨(some 7), none, (.mv (.t 35))⟩, ⟨(some 8), none, (.mv (.t 36))⟩]) (.seq (.seq (.reg [⟨(some 37), none, (.mv (.t 8))⟩, 
  ⟨(some 38), none, (.eq true .i (.t 37) (.k (.int .i64 0)))⟩]) (.cond (.t 38) (.seq (.reg [⟨(some 6), none, (.mv (.k (.bool true)))⟩]) .ret) .skip)) (.seq 
  (.reg [⟨(some 39), none, (.mv (.t 7))⟩, ⟨(some 40), none, (.lenl (.t 39))⟩, ⟨(some 9), none, (.mv (.t 40))⟩]) (.seq (.reg [⟨(some 41), none, (.mv (.t 9))⟩, 
  ⟨(some 42), none, (.bin .add (.t 41) (.k (.int .i64 2)))⟩, ⟨(some 43), none, (.mks 3 24 [(.int .u64 0), (.int .u64 0), (.int .i64 0)] (.k (.int .i64 0)) (.t 42))⟩, 
  ⟨(some 10), none, (.mv (.t 43))⟩]) (.seq (.reg [⟨(some 44), none, (.mv (.t 10))⟩, ⟨(some 45), none, (.mv (.t 7))⟩, ⟨(some 46), none, (.app 3 24 (.t 44) (.t 45))⟩, 
  ⟨(some 10), none, (.mv (.t 46))⟩]) (.seq (.reg [⟨(some 47), none, (.mv (.t 10))⟩, ⟨(some 48), none, (.call f_w11_block [(.k (.int .u64 1)), (.k (.int .i64 64))])⟩, 
  ⟨(some 49), none, (.call f_w11_block [(.k (.int .u64 2)), (.k (.int .i64 64))])⟩, 
  ⟨(some 50), none, (.bsl 3 2 [(.int .u64 0), (.int .u64 0), (.int .i64 0)] [(0, (3, (.t 48))), (3, (3, (.t 49)))])⟩, ⟨(some 51), none, (.app 3 24 (.t 47) (.t 50))⟩, 
  ⟨(some 10), none, (.mv (.t 51))⟩]) (.seq (.drw 1 [⟨⟨(some 53), none, (.ld (some 3) (.t 3))⟩, .ld, [], []⟩, ⟨⟨(some 54), none, (.mv (.t 10))⟩, .pure, [0], []⟩, 
  ⟨⟨(some 55), none, (.mv (.t 9))⟩, .pure, [0], []⟩, ⟨⟨(some 56), none, (.slc 3 (.t 54) none (some (.t 55)) none)⟩, .pure, [0], []⟩, 
  ⟨⟨(some 57), none, (.off 2 (.t 5))⟩, .pure, [0], []⟩, ⟨⟨(some 58), none, (.ld none (.t 57))⟩, .ld, [], []⟩, 
  ⟨⟨(some 59), none, (.call f_buddy_Take [(.t 53), (.t 56), (.t 58)])⟩, .eff, [], [0]⟩, ⟨⟨(some 52), none, (.mv (.t 59))⟩, .pure, [], []⟩, 
  ⟨⟨(some 60), none, (.ext 0 (.t 52))⟩, .pure, [], []⟩, ⟨⟨(some 61), none, (.ext 1 (.t 52))⟩, .pure, [], []⟩, ⟨⟨(some 62), none, (.ext 2 (.t 52))⟩, .pure, [], []⟩, 
  ⟨⟨(some 12), none, (.new [(.int .u64 0), (.int .u64 0), (.int .i64 0)])⟩, (.new 0), [0, 5], []⟩, ⟨⟨(some 11), none, (.mv (.t 60))⟩, .pure, [], []⟩, 
  ⟨⟨none, none, (.st (some 3) (.t 12) (.t 61))⟩, .eff, [], []⟩, ⟨⟨(some 8), none, (.mv (.t 62))⟩, .pure, [], []⟩]) (.seq 
  (.drw 1 [⟨⟨(some 64), none, (.ld (some 3) (.t 3))⟩, .ld, [], []⟩, ⟨⟨(some 65), none, (.mv (.t 10))⟩, .pure, [0], []⟩, ⟨⟨(some 66), none, (.mv (.t 9))⟩, .pure, [0], []⟩, 
  ⟨⟨(some 67), none, (.slc 3 (.t 65) none (some (.t 66)) none)⟩, .pure, [0], []⟩, ⟨⟨(some 68), none, (.off 2 (.t 5))⟩, .pure, [0], []⟩, 
  ⟨⟨(some 69), none, (.ld none (.t 68))⟩, .ld, [], []⟩, ⟨⟨(some 70), none, (.call f_buddy_Take [(.t 64), (.t 67), (.t 69)])⟩, .eff, [], [0]⟩, 
  ⟨⟨(some 63), none, (.mv (.t 70))⟩, .pure, [], []⟩, ⟨⟨(some 71), none, (.ext 0 (.t 63))⟩, .pure, [], []⟩, ⟨⟨(some 72), none, (.ext 1 (.t 63))⟩, .pure, [], []⟩, 
  ⟨⟨(some 73), none, (.ext 2 (.t 63))⟩, .pure, [], []⟩, ⟨⟨(some 14), none, (.new [(.int .u64 0), (.int .u64 0), (.int .i64 0)])⟩, (.new 0), [0, 5], []⟩, 
  ⟨⟨(some 13), none, (.mv (.t 71))⟩, .pure, [], []⟩, ⟨⟨none, none, (.st (some 3) (.t 14) (.t 72))⟩, .eff, [], []⟩, ⟨⟨(some 15), none, (.mv (.t 73))⟩, .pure, [], []⟩]) (.seq (.seq 
  (.reg [⟨(some 74), none, (.mv (.t 8))⟩, ⟨(some 75), none, (.mv (.t 15))⟩, ⟨(some 76), none, (.eq true .i (.t 74) (.t 75))⟩, ⟨(some 77), none, (.mv (.t 76))⟩, 
  ⟨(some 78), (some (77, false)), (.ld (some 3) (.t 12))⟩, ⟨(some 79), (some (77, false)), (.ld (some 3) (.t 14))⟩, 
  ⟨(some 80), (some (77, false)), (.eq true (.st (.sub 0 2 (.st (.one 0 .i (.one 1 .i .nil))) (.one 2 .i .nil))) (.t 78) (.t 79))⟩, 
  ⟨(some 81), none, (.pick (.t 77) (.k (.bool true)) (.t 80))⟩, ⟨(some 82), none, (.mv (.t 81))⟩, ⟨(some 83), (some (82, false)), (.mv (.t 11))⟩, 
  ⟨(some 84), (some (82, false)), (.mv (.t 13))⟩, ⟨(some 85), (some (82, false)), (.call f_w11_same [(.t 83), (.t 84)])⟩, ⟨(some 86), (some (82, false)), (.un .not (.t 85))⟩, 
  ⟨(some 87), none, (.pick (.t 82) (.k (.bool true)) (.t 86))⟩]) (.cond (.t 87) (.seq (.reg [⟨(some 6), none, (.mv (.k (.bool false)))⟩]) .ret) .skip)) (.seq 
  (.drw 0 [⟨⟨(some 89), none, (.ld (some 3) (.t 3))⟩, .ld, [], []⟩, ⟨⟨(some 90), none, (.mv (.t 10))⟩, .pure, [0], []⟩, ⟨⟨(some 91), none, (.mv (.t 9))⟩, .pure, [0], []⟩, 
  ⟨⟨(some 92), none, (.slc 3 (.t 90) none (some (.t 91)) none)⟩, .pure, [0], []⟩, ⟨⟨(some 93), none, (.ld (some 3) (.t 5))⟩, .ld, [], []⟩, 
  ⟨⟨(some 94), none, (.call f_buddy_Reserve [(.t 89), (.t 92), (.t 93)])⟩, .eff, [], []⟩, ⟨⟨(some 88), none, (.mv (.t 94))⟩, .pure, [], []⟩, 
  ⟨⟨(some 95), none, (.ext 0 (.t 88))⟩, .pure, [], []⟩, ⟨⟨(some 96), none, (.ext 1 (.t 88))⟩, .pure, [], []⟩, ⟨⟨(some 16), none, (.mv (.t 95))⟩, .pure, [], []⟩, 
  ⟨⟨(some 17), none, (.mv (.t 96))⟩, .pure, [], []⟩]) (.seq (.drw 0 [⟨⟨(some 98), none, (.ld (some 3) (.t 3))⟩, .ld, [], []⟩, ⟨⟨(some 99), none, (.mv (.t 10))⟩, .pure, [0], []⟩, 
  ⟨⟨(some 100), none, (.mv (.t 9))⟩, .pure, [0], []⟩, ⟨⟨(some 101), none, (.slc 3 (.t 99) none (some (.t 100)) none)⟩, .pure, [0], []⟩, 
  ⟨⟨(some 102), none, (.ld (some 3) (.t 5))⟩, .ld, [], []⟩, ⟨⟨(some 103), none, (.call f_buddy_Give [(.t 98), (.t 101), (.t 102)])⟩, .eff, [], []⟩, 
  ⟨⟨(some 97), none, (.mv (.t 103))⟩, .pure, [], []⟩, ⟨⟨(some 104), none, (.ext 0 (.t 97))⟩, .pure, [], []⟩, ⟨⟨(some 105), none, (.ext 1 (.t 97))⟩, .pure, [], []⟩, 
  ⟨⟨(some 18), none, (.mv (.t 104))⟩, .pure, [], []⟩, ⟨⟨(some 19), none, (.mv (.t 105))⟩, .pure, [], []⟩]) (.seq (.seq (.reg [⟨(some 20), none, (.mv (.k (.int .i64 0)))⟩]) (.block 0 
  (.loop (.seq (.seq (.reg [⟨(some 106), none, (.mv (.t 20))⟩, ⟨(some 107), none, (.mv (.t 11))⟩, ⟨(some 108), none, (.lenl (.t 107))⟩, 
  ⟨(some 109), none, (.bin .lss (.t 106) (.t 108))⟩]) (.cond (.t 109) .skip (.exit 0))) (.seq (.block 1 (.reg [⟨(some 112), none, (.mv (.t 11))⟩, ⟨(some 113), none, (.mv (.t 20))⟩, 
  ⟨(some 114), none, (.call f_w11_block [(.k (.int .u64 9)), (.k (.int .i64 9))])⟩, ⟨(some 115), none, (.ixa 3 (.t 112) (.t 113))⟩, ⟨none, none, (.st (some 3) (.t 115) (.t 114))⟩])) 
  (.reg [⟨(some 110), none, (.mv (.t 20))⟩, ⟨(some 111), none, (.bin .add (.t 110) (.k (.int .i64 1)))⟩, ⟨(some 20), none, (.mv (.t 111))⟩])))))) (.seq (.seq 
  (.reg [⟨(some 21), none, (.mv (.k (.int .i64 0)))⟩]) (.block 2 (.loop (.seq (.seq (.reg [⟨(some 116), none, (.mv (.t 21))⟩, ⟨(some 117), none, (.mv (.t 16))⟩, 
  ⟨(some 118), none, (.lenl (.t 117))⟩, ⟨(some 119), none, (.bin .lss (.t 116) (.t 118))⟩]) (.cond (.t 119) .skip (.exit 2))) (.seq (.block 3 
  (.reg [⟨(some 122), none, (.mv (.t 16))⟩, ⟨(some 123), none, (.mv (.t 21))⟩, ⟨(some 124), none, (.call f_w11_block [(.k (.int .u64 9)), (.k (.int .i64 9))])⟩, 
  ⟨(some 125), none, (.ixa 3 (.t 122) (.t 123))⟩, ⟨none, none, (.st (some 3) (.t 125) (.t 124))⟩])) (.reg [⟨(some 120), none, (.mv (.t 21))⟩, 
  ⟨(some 121), none, (.bin .add (.t 120) (.k (.int .i64 1)))⟩, ⟨(some 21), none, (.mv (.t 121))⟩])))))) (.seq (.seq (.reg [⟨(some 22), none, (.mv (.k (.int .i64 0)))⟩]) (.block 4 
  (.loop (.seq (.seq (.reg [⟨(some 126), none, (.mv (.t 22))⟩, ⟨(some 127), none, (.mv (.t 18))⟩, ⟨(some 128), none, (.lenl (.t 127))⟩, 
  ⟨(some 129), none, (.bin .lss (.t 126) (.t 128))⟩]) (.cond (.t 129) .skip (.exit 4))) (.seq (.block 5 (.reg [⟨(some 132), none, (.mv (.t 18))⟩, ⟨(some 133), none, (.mv (.t 22))⟩, 
  ⟨(some 134), none, (.call f_w11_block [(.k (.int .u64 9)), (.k (.int .i64 9))])⟩, ⟨(some 135), none, (.ixa 3 (.t 132) (.t 133))⟩, ⟨none, none, (.st (some 3) (.t 135) (.t 134))⟩])) 
  (.reg [⟨(some 130), none, (.mv (.t 22))⟩, ⟨(some 131), none, (.bin .add (.t 130) (.k (.int .i64 1)))⟩, ⟨(some 22), none, (.mv (.t 131))⟩])))))) (.seq 
  (.reg [⟨(some 137), none, (.ld (some 3) (.t 3))⟩, ⟨(some 138), none, (.mv (.t 7))⟩, ⟨(some 139), none, (.off 2 (.t 5))⟩, ⟨(some 140), none, (.ld none (.t 139))⟩, 
  ⟨(some 141), none, (.call f_buddy_Take [(.t 137), (.t 138), (.t 140)])⟩, ⟨(some 136), none, (.mv (.t 141))⟩, ⟨(some 142), none, (.ext 0 (.t 136))⟩, 
  ⟨(some 143), none, (.ext 1 (.t 136))⟩, ⟨(some 144), none, (.ext 2 (.t 136))⟩, ⟨(some 24), none, (.new [(.int .u64 0), (.int .u64 0), (.int .i64 0)])⟩, 
  ⟨(some 23), none, (.mv (.t 142))⟩, ⟨none, none, (.st (some 3) (.t 24) (.t 143))⟩, ⟨(some 25), none, (.mv (.t 144))⟩]) (.seq 
  (.drw 0 [⟨⟨(some 145), none, (.mv (.t 10))⟩, .pure, [], []⟩, ⟨⟨(some 146), none, (.mv (.t 9))⟩, .pure, [], []⟩, 
  ⟨⟨(some 147), none, (.slc 3 (.t 145) none (some (.t 146)) none)⟩, .pure, [], []⟩, ⟨⟨(some 148), none, (.mv (.t 7))⟩, .pure, [], []⟩, 
  ⟨⟨(some 149), none, (.call f_w11_same [(.t 147), (.t 148)])⟩, .eff, [], []⟩, ⟨⟨(some 150), none, (.mv (.t 149))⟩, .pure, [], []⟩, 
  ⟨⟨(some 151), (some (150, true)), (.mv (.t 10))⟩, .pure, [], []⟩, ⟨⟨(some 152), (some (150, true)), (.mv (.t 9))⟩, .pure, [], []⟩, 
  ⟨⟨(some 153), (some (150, true)), (.ixa 3 (.t 151) (.t 152))⟩, .pure, [], []⟩, ⟨⟨(some 154), (some (150, true)), (.ld (some 3) (.t 153))⟩, .ld, [], []⟩, 
  ⟨⟨(some 155), (some (150, true)), (.call f_w11_block [(.k (.int .u64 1)), (.k (.int .i64 64))])⟩, .eff, [9], []⟩, 
  ⟨⟨(some 156), (some (150, true)), (.eq false (.st (.sub 0 2 (.st (.one 0 .i (.one 1 .i .nil))) (.one 2 .i .nil))) (.t 154) (.t 155))⟩, .pure, [], []⟩, 
  ⟨⟨(some 157), none, (.pick (.t 150) (.t 156) (.k (.bool false)))⟩, .pure, [], []⟩, ⟨⟨(some 158), none, (.mv (.t 157))⟩, .pure, [], []⟩, 
  ⟨⟨(some 159), (some (158, true)), (.mv (.t 10))⟩, .pure, [], []⟩, ⟨⟨(some 160), (some (158, true)), (.mv (.t 9))⟩, .pure, [], []⟩, 
  ⟨⟨(some 161), (some (158, true)), (.bin .add (.t 160) (.k (.int .i64 1)))⟩, .pure, [], []⟩, ⟨⟨(some 162), (some (158, true)), (.ixa 3 (.t 159) (.t 161))⟩, .pure, [], []⟩, 
  ⟨⟨(some 163), (some (158, true)), (.ld (some 3) (.t 162))⟩, .ld, [], []⟩, 
  ⟨⟨(some 164), (some (158, true)), (.call f_w11_block [(.k (.int .u64 2)), (.k (.int .i64 64))])⟩, .eff, [18], []⟩, 
  ⟨⟨(some 165), (some (158, true)), (.eq false (.st (.sub 0 2 (.st (.one 0 .i (.one 1 .i .nil))) (.one 2 .i .nil))) (.t 163) (.t 164))⟩, .pure, [], []⟩, 
  ⟨⟨(some 166), none, (.pick (.t 158) (.t 165) (.k (.bool false)))⟩, .pure, [], []⟩, ⟨⟨(some 167), none, (.mv (.t 166))⟩, .pure, [], []⟩, 
  ⟨⟨(some 168), (some (167, true)), (.mv (.t 13))⟩, .pure, [], []⟩, ⟨⟨(some 169), (some (167, true)), (.mv (.t 23))⟩, .pure, [], []⟩, 
  ⟨⟨(some 170), (some (167, true)), (.call f_w11_same [(.t 168), (.t 169)])⟩, .eff, [], []⟩, ⟨⟨(some 171), none, (.pick (.t 167) (.t 170) (.k (.bool false)))⟩, .pure, [], []⟩, 
  ⟨⟨(some 6), none, (.mv (.t 171))⟩, .pure, [], []⟩]) .ret)))))))))))))))))))⟩
theorem c_w11_BuddyMemory : compF Try.prog ⟨some 67, some 66⟩ Try.f5 = some r_w11_BuddyMemory := by kernel_rfl
/-- tenancy/tenancylaw11.BuddyRow -/
def r_w11_BuddyRow : RF :=
  ⟨171, [(.tmp 4)], (.seq (.reg [⟨(some 2), none, (.box (some 3) (.t 0))⟩, ⟨(some 4), none, (.mv (.k (.bool false)))⟩]) (.seq (.seq (.reg [⟨(some 20), none, (.call f_w11_awake [])⟩, 
  ⟨(some 21), none, (.un .not (.t 20))⟩]) (.cond (.t 21) (.seq (.reg [⟨(some 4), none, (.mv (.k (.bool false)))⟩]) .ret) .skip)) (.seq (.seq 
  (.reg [⟨(some 22), none, (.ld (some 3) (.t 2))⟩, ⟨(some 23), none, (.call f_addr_Sound [(.t 22)])⟩, ⟨(some 24), none, (.un .not (.t 23))⟩]) (.cond (.t 24) (.seq 
  (.reg [⟨(some 26), none, (.ld (some 3) (.t 2))⟩, ⟨(some 27), none, (.call f_buddy_Take [(.t 26), (.k .nils), (.k (.int .i64 64))])⟩, ⟨(some 25), none, (.mv (.t 27))⟩, 
  ⟨(some 28), none, (.ext 0 (.t 25))⟩, ⟨(some 29), none, (.ext 1 (.t 25))⟩, ⟨(some 30), none, (.ext 2 (.t 25))⟩, 
  ⟨(some 6), none, (.new [(.int .u64 0), (.int .u64 0), (.int .i64 0)])⟩, ⟨(some 5), none, (.mv (.t 28))⟩, ⟨none, none, (.st (some 3) (.t 6) (.t 29))⟩, 
  ⟨(some 7), none, (.mv (.t 30))⟩]) (.seq (.reg [⟨(some 31), none, (.mv (.t 7))⟩, ⟨(some 32), none, (.eq false .i (.t 31) (.k (.int .i64 1)))⟩, 
  ⟨(some 4), none, (.mv (.t 32))⟩]) .ret)) .skip)) (.seq (.reg [⟨(some 33), none, (.ld (some 3) (.t 2))⟩, 
  ⟨(some 34), none, (.bsl 3 1 [(.int .u64 0), (.int .u64 0), (.int .i64 0)] [(0, (3, (.t 33)))])⟩, ⟨(some 8), none, (.mv (.t 34))⟩]) (.seq 
  (.reg [⟨(some 9), none, (.mv (.k .nils))⟩]) (.seq (.seq (.reg [⟨(some 10), none, (.mv (.k (.int .i64 0)))⟩]) (.block 0 (.loop (.seq (.seq (.reg [⟨(some 35), none, (.mv (.t 10))⟩, 
  ⟨(some 36), none, (.mv (.t 1))⟩, ⟨(some 37), none, (.lenl (.t 36))⟩, ⟨(some 38), none, (.bin .lss (.t 35) (.t 37))⟩, ⟨(some 39), none, (.mv (.t 38))⟩, 
  ⟨(some 40), (some (39, true)), (.mv (.t 10))⟩, ⟨(some 41), (some (39, true)), (.bin .lss (.t 40) (.k (.int .i64 80)))⟩, 
  ⟨(some 42), none, (.pick (.t 39) (.t 41) (.k (.bool false)))⟩]) (.cond (.t 42) .skip (.exit 0))) (.seq (.block 1 (.seq (.reg [⟨(some 45), none, (.mv (.t 1))⟩, 
  ⟨(some 46), none, (.mv (.t 10))⟩, ⟨(some 47), none, (.ixa 3 (.t 45) (.t 46))⟩, ⟨(some 48), none, (.ld (some 3) (.t 47))⟩, 
  ⟨(some 11), none, (.new [(.int .i64 0), (.bool false), (.int .i64 0)])⟩, ⟨none, none, (.st (some 3) (.t 11) (.t 48))⟩]) (.seq (.seq (.reg [⟨(some 49), none, (.off 1 (.t 11))⟩, 
  ⟨(some 50), none, (.ld none (.t 49))⟩, ⟨(some 51), none, (.mv (.t 50))⟩, ⟨(some 52), (some (51, true)), (.mv (.t 9))⟩, ⟨(some 53), (some (51, true)), (.lenl (.t 52))⟩, 
  ⟨(some 54), (some (51, true)), (.bin .gtr (.t 53) (.k (.int .i64 0)))⟩, ⟨(some 55), none, (.pick (.t 51) (.t 54) (.k (.bool false)))⟩]) (.cond (.t 55) (.seq 
  (.reg [⟨(some 56), none, (.off 2 (.t 11))⟩, ⟨(some 57), none, (.ld none (.t 56))⟩, ⟨(some 58), none, (.cvi .u64 (.t 57))⟩, ⟨(some 59), none, (.mv (.t 9))⟩, 
  ⟨(some 60), none, (.lenl (.t 59))⟩, ⟨(some 61), none, (.cvi .u64 (.t 60))⟩, ⟨(some 62), none, (.bin .rem (.t 58) (.t 61))⟩, ⟨(some 63), none, (.cvi .i64 (.t 62))⟩, 
  ⟨(some 12), none, (.mv (.t 63))⟩]) (.seq (.drw 0 [⟨⟨(some 65), none, (.ld (some 3) (.t 2))⟩, .ld, [], []⟩, ⟨⟨(some 66), none, (.mv (.t 8))⟩, .pure, [0], []⟩, 
  ⟨⟨(some 67), none, (.mv (.t 9))⟩, .pure, [0], []⟩, ⟨⟨(some 68), none, (.mv (.t 12))⟩, .pure, [0], []⟩, ⟨⟨(some 69), none, (.ixa 3 (.t 67) (.t 68))⟩, .pure, [0], []⟩, 
  ⟨⟨(some 70), none, (.ld (some 3) (.t 69))⟩, .ld, [], []⟩, ⟨⟨(some 71), none, (.call f_buddy_Give [(.t 65), (.t 66), (.t 70)])⟩, .eff, [], []⟩, 
  ⟨⟨(some 64), none, (.mv (.t 71))⟩, .pure, [], []⟩, ⟨⟨(some 72), none, (.ext 0 (.t 64))⟩, .pure, [], []⟩, ⟨⟨(some 73), none, (.ext 1 (.t 64))⟩, .pure, [], []⟩, 
  ⟨⟨(some 13), none, (.mv (.t 72))⟩, .pure, [], []⟩, ⟨⟨(some 14), none, (.mv (.t 73))⟩, .pure, [], []⟩]) (.seq (.seq (.reg [⟨(some 74), none, (.mv (.t 14))⟩, 
  ⟨(some 75), none, (.eq true .i (.t 74) (.k (.int .i64 0)))⟩]) (.cond (.t 75) (.seq (.reg [⟨(some 4), none, (.mv (.k (.bool false)))⟩]) .ret) .skip)) (.seq 
  (.reg [⟨(some 76), none, (.mv (.t 13))⟩, ⟨(some 8), none, (.mv (.t 76))⟩]) (.seq (.reg [⟨(some 77), none, (.mv (.t 9))⟩, ⟨(some 78), none, (.mv (.t 12))⟩, 
  ⟨(some 79), none, (.mv (.t 9))⟩, ⟨(some 80), none, (.mv (.t 9))⟩, ⟨(some 81), none, (.lenl (.t 80))⟩, ⟨(some 82), none, (.bin .sub (.t 81) (.k (.int .i64 1)))⟩, 
  ⟨(some 83), none, (.ixa 3 (.t 79) (.t 82))⟩, ⟨(some 84), none, (.ld (some 3) (.t 83))⟩, ⟨(some 85), none, (.ixa 3 (.t 77) (.t 78))⟩, ⟨none, none, (.st (some 3) (.t 85) (.t 84))⟩]) 
  (.reg [⟨(some 86), none, (.mv (.t 9))⟩, ⟨(some 87), none, (.mv (.t 9))⟩, ⟨(some 88), none, (.lenl (.t 87))⟩, ⟨(some 89), none, (.bin .sub (.t 88) (.k (.int .i64 1)))⟩, 
  ⟨(some 90), none, (.slc 3 (.t 86) none (some (.t 89)) none)⟩, ⟨(some 9), none, (.mv (.t 90))⟩])))))) (.seq (.reg [⟨(some 92), none, (.ld (some 3) (.t 2))⟩, 
  ⟨(some 93), none, (.mv (.t 8))⟩, ⟨(some 94), none, (.off 0 (.t 11))⟩, ⟨(some 95), none, (.ld none (.t 94))⟩, ⟨(some 96), none, (.call f_buddy_Take [(.t 92), (.t 93), (.t 95)])⟩, 
  ⟨(some 91), none, (.mv (.t 96))⟩, ⟨(some 97), none, (.ext 0 (.t 91))⟩, ⟨(some 98), none, (.ext 1 (.t 91))⟩, ⟨(some 99), none, (.ext 2 (.t 91))⟩, 
  ⟨(some 16), none, (.new [(.int .u64 0), (.int .u64 0), (.int .i64 0)])⟩, ⟨(some 15), none, (.mv (.t 97))⟩, ⟨none, none, (.st (some 3) (.t 16) (.t 98))⟩, 
  ⟨(some 17), none, (.mv (.t 99))⟩]) (.seq (.seq (.reg [⟨(some 100), none, (.off 0 (.t 11))⟩, ⟨(some 101), none, (.ld none (.t 100))⟩, ⟨(some 102), none, (.off 2 (.t 2))⟩, 
  ⟨(some 103), none, (.ld none (.t 102))⟩, ⟨(some 104), none, (.bin .lss (.t 101) (.t 103))⟩, ⟨(some 105), none, (.mv (.t 104))⟩, 
  ⟨(some 106), (some (105, false)), (.off 0 (.t 11))⟩, ⟨(some 107), (some (105, false)), (.ld none (.t 106))⟩, 
  ⟨(some 108), (some (105, false)), (.bin .gtr (.t 107) (.k (.int .i64 128)))⟩, ⟨(some 109), none, (.pick (.t 105) (.k (.bool true)) (.t 108))⟩]) (.cond (.t 109) (.seq (.seq 
  (.reg [⟨(some 110), none, (.mv (.t 17))⟩, ⟨(some 111), none, (.eq true .i (.t 110) (.k (.int .i64 1)))⟩]) (.cond (.t 111) (.seq 
  (.reg [⟨(some 4), none, (.mv (.k (.bool false)))⟩]) .ret) .skip)) (.exit 1)) .skip)) (.seq (.seq (.reg [⟨(some 112), none, (.mv (.t 17))⟩, 
  ⟨(some 113), none, (.eq false .i (.t 112) (.k (.int .i64 0)))⟩, ⟨(some 114), none, (.mv (.t 8))⟩, ⟨(some 115), none, (.off 0 (.t 11))⟩, ⟨(some 116), none, (.ld none (.t 115))⟩, 
  ⟨(some 117), none, (.call f_buddy_Fits [(.t 114), (.t 116)])⟩, ⟨(some 118), none, (.eq true .b (.t 113) (.t 117))⟩, ⟨(some 119), none, (.mv (.t 118))⟩, 
  ⟨(some 120), (some (119, false)), (.mv (.t 17))⟩, ⟨(some 121), (some (119, false)), (.eq true .i (.t 120) (.k (.int .i64 0)))⟩, ⟨(some 122), (some (119, false)), (.mv (.t 121))⟩, 
  ⟨(some 123), (some (122, true)), (.mv (.t 17))⟩, ⟨(some 124), (some (122, true)), (.eq true .i (.t 123) (.k (.int .i64 110)))⟩, 
  ⟨(some 125), (some (119, false)), (.pick (.t 122) (.t 124) (.k (.bool false)))⟩, ⟨(some 126), none, (.pick (.t 119) (.k (.bool true)) (.t 125))⟩]) (.cond (.t 126) (.seq 
  (.reg [⟨(some 4), none, (.mv (.k (.bool false)))⟩]) .ret) .skip)) (.seq (.seq (.reg [⟨(some 127), none, (.mv (.t 17))⟩, 
  ⟨(some 128), none, (.eq true .i (.t 127) (.k (.int .i64 0)))⟩]) (.cond (.t 128) (.exit 1) .skip)) (.seq (.seq (.reg [⟨(some 129), none, (.off 2 (.t 16))⟩, 
  ⟨(some 130), none, (.ld none (.t 129))⟩, ⟨(some 131), none, (.off 0 (.t 11))⟩, ⟨(some 132), none, (.ld none (.t 131))⟩, ⟨(some 133), none, (.eq true .i (.t 130) (.t 132))⟩, 
  ⟨(some 134), none, (.mv (.t 133))⟩, ⟨(some 135), (some (134, false)), (.ld (some 3) (.t 2))⟩, ⟨(some 136), (some (134, false)), (.ld (some 3) (.t 16))⟩, 
  ⟨(some 137), (some (134, false)), (.call f_addr_Covers [(.t 135), (.t 136)])⟩, ⟨(some 138), (some (134, false)), (.un .not (.t 137))⟩, 
  ⟨(some 139), none, (.pick (.t 134) (.k (.bool true)) (.t 138))⟩]) (.cond (.t 139) (.seq (.reg [⟨(some 4), none, (.mv (.k (.bool false)))⟩]) .ret) .skip)) (.seq 
  (.reg [⟨(some 140), none, (.mv (.t 15))⟩, ⟨(some 8), none, (.mv (.t 140))⟩]) (.reg [⟨(some 141), none, (.mv (.t 9))⟩, ⟨(some 142), none, (.ld (some 3) (.t 16))⟩, 
  ⟨(some 143), none, (.bsl 3 1 [(.int .u64 0), (.int .u64 0), (.int .i64 0)] [(0, (3, (.t 142)))])⟩, ⟨(some 144), none, (.app 3 24 (.t 141) (.t 143))⟩, 
  ⟨(some 9), none, (.mv (.t 144))⟩]))))))))) (.seq (.reg [⟨(some 145), none, (.ld (some 3) (.t 2))⟩, ⟨(some 146), none, (.mv (.t 8))⟩, ⟨(some 147), none, (.mv (.t 9))⟩, 
  ⟨(some 148), none, (.call f_w11_apart [(.t 145), (.t 146), (.t 147)])⟩, ⟨(some 149), none, (.un .not (.t 148))⟩]) (.cond (.t 149) (.seq 
  (.reg [⟨(some 4), none, (.mv (.k (.bool false)))⟩]) .ret) .skip))))) (.reg [⟨(some 43), none, (.mv (.t 10))⟩, ⟨(some 44), none, (.bin .add (.t 43) (.k (.int .i64 1)))⟩, 
  ⟨(some 10), none, (.mv (.t 44))⟩])))))) (.seq (.block 2 (.loop (.seq (.seq (.reg [⟨(some 150), none, (.mv (.t 9))⟩, ⟨(some 151), none, (.lenl (.t 150))⟩, 
  ⟨(some 152), none, (.bin .gtr (.t 151) (.k (.int .i64 0)))⟩]) (.cond (.t 152) .skip (.exit 2))) (.block 3 (.seq (.drw 0 [⟨⟨(some 154), none, (.ld (some 3) (.t 2))⟩, .ld, [], []⟩, 
  ⟨⟨(some 155), none, (.mv (.t 8))⟩, .pure, [0], []⟩, ⟨⟨(some 156), none, (.mv (.t 9))⟩, .pure, [0], []⟩, ⟨⟨(some 157), none, (.ixa 3 (.t 156) (.k (.int .i64 0)))⟩, .pure, [0], []⟩, 
  ⟨⟨(some 158), none, (.ld (some 3) (.t 157))⟩, .ld, [], []⟩, ⟨⟨(some 159), none, (.call f_buddy_Give [(.t 154), (.t 155), (.t 158)])⟩, .eff, [], []⟩, 
  ⟨⟨(some 153), none, (.mv (.t 159))⟩, .pure, [], []⟩, ⟨⟨(some 160), none, (.ext 0 (.t 153))⟩, .pure, [], []⟩, ⟨⟨(some 161), none, (.ext 1 (.t 153))⟩, .pure, [], []⟩, 
  ⟨⟨(some 18), none, (.mv (.t 160))⟩, .pure, [], []⟩, ⟨⟨(some 19), none, (.mv (.t 161))⟩, .pure, [], []⟩]) (.seq (.seq (.reg [⟨(some 162), none, (.mv (.t 19))⟩, 
  ⟨(some 163), none, (.eq true .i (.t 162) (.k (.int .i64 0)))⟩]) (.cond (.t 163) (.seq (.reg [⟨(some 4), none, (.mv (.k (.bool false)))⟩]) .ret) .skip)) (.seq 
  (.reg [⟨(some 164), none, (.mv (.t 18))⟩, ⟨(some 8), none, (.mv (.t 164))⟩]) (.reg [⟨(some 165), none, (.mv (.t 9))⟩, 
  ⟨(some 166), none, (.slc 3 (.t 165) (some (.k (.int .i64 1))) none none)⟩, ⟨(some 9), none, (.mv (.t 166))⟩])))))))) (.seq (.reg [⟨(some 167), none, (.mv (.t 8))⟩, 
  ⟨(some 168), none, (.ld (some 3) (.t 2))⟩, ⟨(some 169), none, (.bsl 3 1 [(.int .u64 0), (.int .u64 0), (.int .i64 0)] [(0, (3, (.t 168)))])⟩, 
  ⟨(some 170), none, (.call f_w11_same [(.t 167), (.t 169)])⟩, ⟨(some 4), none, (.mv (.t 170))⟩]) .ret))))))))⟩
theorem c_w11_BuddyRow : compF Try.prog ⟨some 67, some 66⟩ Try.f6 = some r_w11_BuddyRow := by kernel_rfl
/-- tenancy/tenancylaw11.awake -/
def r_w11_awake : RF :=
  ⟨101, [(.tmp 0)], (.seq (.reg [⟨(some 0), none, (.mv (.k (.bool false)))⟩]) (.seq (.reg [⟨(some 11), none, (.call f_w11_block [(.k (.int .u64 0)), (.k (.int .i64 48))])⟩, 
  ⟨(some 1), none, (.new [(.int .u64 0), (.int .u64 0), (.int .i64 0)])⟩, ⟨none, none, (.st (some 3) (.t 1) (.t 11))⟩]) (.seq (.reg [⟨(some 13), none, (.ld (some 3) (.t 1))⟩, 
  ⟨(some 14), none, (.ld (some 3) (.t 1))⟩, ⟨(some 15), none, (.bsl 3 1 [(.int .u64 0), (.int .u64 0), (.int .i64 0)] [(0, (3, (.t 14)))])⟩, 
  ⟨(some 16), none, (.call f_buddy_Take [(.t 13), (.t 15), (.k (.int .i64 50))])⟩, ⟨(some 12), none, (.mv (.t 16))⟩, ⟨(some 17), none, (.ext 0 (.t 12))⟩, 
  ⟨(some 18), none, (.ext 1 (.t 12))⟩, ⟨(some 19), none, (.ext 2 (.t 12))⟩, ⟨(some 3), none, (.new [(.int .u64 0), (.int .u64 0), (.int .i64 0)])⟩, ⟨(some 2), none, (.mv (.t 17))⟩, 
  ⟨none, none, (.st (some 3) (.t 3) (.t 18))⟩, ⟨(some 4), none, (.mv (.t 19))⟩]) (.seq (.reg [⟨(some 21), none, (.ld (some 3) (.t 1))⟩, ⟨(some 22), none, (.mv (.t 2))⟩, 
  ⟨(some 23), none, (.ld (some 3) (.t 3))⟩, ⟨(some 24), none, (.call f_buddy_Give [(.t 21), (.t 22), (.t 23)])⟩, ⟨(some 20), none, (.mv (.t 24))⟩, 
  ⟨(some 25), none, (.ext 0 (.t 20))⟩, ⟨(some 26), none, (.ext 1 (.t 20))⟩, ⟨(some 5), none, (.mv (.t 25))⟩, ⟨(some 6), none, (.mv (.t 26))⟩]) (.seq 
  (.drw 0 [⟨⟨(some 28), none, (.ld (some 3) (.t 1))⟩, .ld, [], []⟩, ⟨⟨(some 29), none, (.mv (.t 5))⟩, .pure, [0], []⟩, 
  ⟨⟨(some 30), none, (.call f_w11_block [(.k (.int .u64 32768)), (.k (.int .i64 49))])⟩, .eff, [0], []⟩, 
  ⟨⟨(some 31), none, (.call f_buddy_Reserve [(.t 28), (.t 29), (.t 30)])⟩, .eff, [], []⟩, ⟨⟨(some 27), none, (.mv (.t 31))⟩, .pure, [], []⟩, 
  ⟨⟨(some 32), none, (.ext 0 (.t 27))⟩, .pure, [], []⟩, ⟨⟨(some 33), none, (.ext 1 (.t 27))⟩, .pure, [], []⟩, ⟨⟨(some 7), none, (.mv (.t 32))⟩, .pure, [], []⟩, 
  ⟨⟨(some 8), none, (.mv (.t 33))⟩, .pure, [], []⟩]) (.seq (.drw 1 [⟨⟨(some 35), none, (.ld (some 3) (.t 1))⟩, .ld, [], []⟩, 
  ⟨⟨(some 36), none, (.call f_w11_block [(.k (.int .u64 0)), (.k (.int .i64 50))])⟩, .eff, [0], [0]⟩, 
  ⟨⟨(some 37), none, (.call f_w11_block [(.k (.int .u64 49152)), (.k (.int .i64 50))])⟩, .eff, [0], [0]⟩, 
  ⟨⟨(some 38), none, (.bsl 3 2 [(.int .u64 0), (.int .u64 0), (.int .i64 0)] [(0, (3, (.t 36))), (3, (3, (.t 37)))])⟩, (.new 0), [0], []⟩, 
  ⟨⟨(some 39), none, (.call f_buddy_Free [(.t 35), (.t 38)])⟩, .eff, [], []⟩, ⟨⟨(some 34), none, (.mv (.t 39))⟩, .pure, [], []⟩, 
  ⟨⟨(some 40), none, (.ext 0 (.t 34))⟩, .pure, [], []⟩, ⟨⟨(some 41), none, (.ext 1 (.t 34))⟩, .pure, [], []⟩, ⟨⟨(some 9), none, (.mv (.t 40))⟩, .pure, [], []⟩, 
  ⟨⟨(some 10), none, (.mv (.t 41))⟩, .pure, [], []⟩]) (.seq (.drw 4 [⟨⟨(some 42), none, (.ld (some 3) (.t 3))⟩, .ld, [], []⟩, 
  ⟨⟨(some 43), none, (.call f_w11_block [(.k (.int .u64 0)), (.k (.int .i64 50))])⟩, .eff, [0], [0, 1, 2, 3]⟩, 
  ⟨⟨(some 44), none, (.eq false (.st (.sub 0 2 (.st (.one 0 .i (.one 1 .i .nil))) (.one 2 .i .nil))) (.t 42) (.t 43))⟩, .pure, [], []⟩, 
  ⟨⟨(some 45), none, (.mv (.t 44))⟩, .pure, [], []⟩, ⟨⟨(some 46), (some (45, true)), (.mv (.t 4))⟩, .pure, [], []⟩, 
  ⟨⟨(some 47), (some (45, true)), (.eq false .i (.t 46) (.k (.int .i64 0)))⟩, .pure, [], []⟩, ⟨⟨(some 48), none, (.pick (.t 45) (.t 47) (.k (.bool false)))⟩, .pure, [], []⟩, 
  ⟨⟨(some 49), none, (.mv (.t 48))⟩, .pure, [], []⟩, ⟨⟨(some 50), (some (49, true)), (.mv (.t 2))⟩, .pure, [], []⟩, 
  ⟨⟨(some 51), (some (49, true)), (.call f_w11_block [(.k (.int .u64 16384)), (.k (.int .i64 50))])⟩, .eff, [], [0, 1, 2, 3]⟩, 
  ⟨⟨(some 52), (some (49, true)), (.call f_w11_block [(.k (.int .u64 32768)), (.k (.int .i64 49))])⟩, .eff, [], [0, 1, 2, 3]⟩, 
  ⟨⟨(some 53), (some (49, true)), (.bsl 3 2 [(.int .u64 0), (.int .u64 0), (.int .i64 0)] [(0, (3, (.t 51))), (3, (3, (.t 52)))])⟩, (.new 0), [], []⟩, 
  ⟨⟨(some 54), (some (49, true)), (.call f_w11_same [(.t 50), (.t 53)])⟩, .eff, [], [1, 2, 3]⟩, ⟨⟨(some 55), none, (.pick (.t 49) (.t 54) (.k (.bool false)))⟩, .pure, [], []⟩, 
  ⟨⟨(some 56), none, (.mv (.t 55))⟩, .pure, [], []⟩, ⟨⟨(some 57), (some (56, true)), (.mv (.t 6))⟩, .pure, [], []⟩, 
  ⟨⟨(some 58), (some (56, true)), (.eq false .i (.t 57) (.k (.int .i64 0)))⟩, .pure, [], []⟩, ⟨⟨(some 59), none, (.pick (.t 56) (.t 58) (.k (.bool false)))⟩, .pure, [], []⟩, 
  ⟨⟨(some 60), none, (.mv (.t 59))⟩, .pure, [], []⟩, ⟨⟨(some 61), (some (60, true)), (.mv (.t 5))⟩, .pure, [], []⟩, 
  ⟨⟨(some 62), (some (60, true)), (.ld (some 3) (.t 1))⟩, .ld, [], []⟩, 
  ⟨⟨(some 63), (some (60, true)), (.bsl 3 1 [(.int .u64 0), (.int .u64 0), (.int .i64 0)] [(0, (3, (.t 62)))])⟩, (.new 1), [], []⟩, 
  ⟨⟨(some 64), (some (60, true)), (.call f_w11_same [(.t 61), (.t 63)])⟩, .eff, [], [2, 3]⟩, ⟨⟨(some 65), none, (.pick (.t 60) (.t 64) (.k (.bool false)))⟩, .pure, [], []⟩, 
  ⟨⟨(some 66), none, (.mv (.t 65))⟩, .pure, [], []⟩, ⟨⟨(some 67), (some (66, true)), (.mv (.t 8))⟩, .pure, [], []⟩, 
  ⟨⟨(some 68), (some (66, true)), (.eq false .i (.t 67) (.k (.int .i64 0)))⟩, .pure, [], []⟩, ⟨⟨(some 69), none, (.pick (.t 66) (.t 68) (.k (.bool false)))⟩, .pure, [], []⟩, 
  ⟨⟨(some 70), none, (.mv (.t 69))⟩, .pure, [], []⟩, ⟨⟨(some 71), (some (70, true)), (.mv (.t 7))⟩, .pure, [], []⟩, 
  ⟨⟨(some 72), (some (70, true)), (.call f_w11_block [(.k (.int .u64 0)), (.k (.int .i64 49))])⟩, .eff, [], [2, 3]⟩, 
  ⟨⟨(some 73), (some (70, true)), (.bsl 3 1 [(.int .u64 0), (.int .u64 0), (.int .i64 0)] [(0, (3, (.t 72)))])⟩, (.new 2), [], []⟩, 
  ⟨⟨(some 74), (some (70, true)), (.call f_w11_same [(.t 71), (.t 73)])⟩, .eff, [], [3]⟩, ⟨⟨(some 75), none, (.pick (.t 70) (.t 74) (.k (.bool false)))⟩, .pure, [], []⟩, 
  ⟨⟨(some 76), none, (.mv (.t 75))⟩, .pure, [], []⟩, ⟨⟨(some 77), (some (76, true)), (.mv (.t 10))⟩, .pure, [], []⟩, 
  ⟨⟨(some 78), (some (76, true)), (.eq false .i (.t 77) (.k (.int .i64 0)))⟩, .pure, [], []⟩, ⟨⟨(some 79), none, (.pick (.t 76) (.t 78) (.k (.bool false)))⟩, .pure, [], []⟩, 
  ⟨⟨(some 80), none, (.mv (.t 79))⟩, .pure, [], []⟩, ⟨⟨(some 81), (some (80, true)), (.mv (.t 9))⟩, .pure, [], []⟩, 
  ⟨⟨(some 82), (some (80, true)), (.call f_w11_block [(.k (.int .u64 16384)), (.k (.int .i64 50))])⟩, .eff, [], [3]⟩, 
  ⟨⟨(some 83), (some (80, true)), (.call f_w11_block [(.k (.int .u64 32768)), (.k (.int .i64 50))])⟩, .eff, [], [3]⟩, 
  ⟨⟨(some 84), (some (80, true)), (.bsl 3 2 [(.int .u64 0), (.int .u64 0), (.int .i64 0)] [(0, (3, (.t 82))), (3, (3, (.t 83)))])⟩, (.new 3), [], []⟩, 
  ⟨⟨(some 85), (some (80, true)), (.call f_w11_same [(.t 81), (.t 84)])⟩, .eff, [], []⟩, ⟨⟨(some 86), none, (.pick (.t 80) (.t 85) (.k (.bool false)))⟩, .pure, [], []⟩, 
  ⟨⟨(some 87), none, (.mv (.t 86))⟩, .pure, [], []⟩, ⟨⟨(some 88), (some (87, true)), (.mv (.t 9))⟩, .pure, [], []⟩, 
  ⟨⟨(some 89), (some (87, true)), (.call f_buddy_Fits [(.t 88), (.k (.int .i64 50))])⟩, .eff, [], []⟩, 
  ⟨⟨(some 90), none, (.pick (.t 87) (.t 89) (.k (.bool false)))⟩, .pure, [], []⟩, ⟨⟨(some 91), none, (.mv (.t 90))⟩, .pure, [], []⟩, 
  ⟨⟨(some 92), (some (91, true)), (.mv (.t 9))⟩, .pure, [], []⟩, ⟨⟨(some 93), (some (91, true)), (.call f_buddy_Fits [(.t 92), (.k (.int .i64 49))])⟩, .eff, [], []⟩, 
  ⟨⟨(some 94), (some (91, true)), (.un .not (.t 93))⟩, .pure, [], []⟩, ⟨⟨(some 95), none, (.pick (.t 91) (.t 94) (.k (.bool false)))⟩, .pure, [], []⟩, 
  ⟨⟨(some 96), none, (.mv (.t 95))⟩, .pure, [], []⟩, ⟨⟨(some 97), (some (96, true)), (.ld (some 3) (.t 1))⟩, .ld, [], []⟩, 
  ⟨⟨(some 98), (some (96, true)), (.mv (.t 9))⟩, .pure, [55], []⟩, ⟨⟨(some 99), (some (96, true)), (.call f_buddy_Sound [(.t 97), (.t 98)])⟩, .eff, [], []⟩, 
  ⟨⟨(some 100), none, (.pick (.t 96) (.t 99) (.k (.bool false)))⟩, .pure, [], []⟩, ⟨⟨(some 0), none, (.mv (.t 100))⟩, .pure, [], []⟩]) .ret)))))))⟩
theorem c_w11_awake : compF Try.prog ⟨some 67, some 66⟩ Try.f7 = some r_w11_awake := by kernel_rfl
/-- tenancy/buddy.Sound -/
def r_buddy_Sound : RF :=
  ⟨52, [(.tmp 4)], (.seq (.reg [⟨(some 2), none, (.box (some 3) (.t 0))⟩, ⟨(some 4), none, (.mv (.k (.bool false)))⟩]) (.seq (.seq (.reg [⟨(some 10), none, (.mv (.t 1))⟩, 
  ⟨(some 11), none, (.lenl (.t 10))⟩, ⟨(some 12), none, (.mv (.k (.int .i64 0)))⟩]) (.block 0 (.loop (.seq (.reg [⟨(some 13), none, (.bin .lss (.t 12) (.t 11))⟩]) (.seq 
  (.cond (.t 13) .skip (.exit 0)) (.seq (.block 1 (.seq (.reg [⟨(some 14), none, (.mv (.t 12))⟩, ⟨(some 15), none, (.ixa 3 (.t 10) (.t 12))⟩, 
  ⟨(some 16), none, (.ld (some 3) (.t 15))⟩, ⟨(some 6), none, (.new [(.int .u64 0), (.int .u64 0), (.int .i64 0)])⟩, ⟨(some 5), none, (.mv (.t 14))⟩, 
  ⟨none, none, (.st (some 3) (.t 6) (.t 16))⟩]) (.seq (.seq (.reg [⟨(some 17), none, (.ld (some 3) (.t 2))⟩, ⟨(some 18), none, (.ld (some 3) (.t 6))⟩, 
  ⟨(some 19), none, (.call f_addr_Covers [(.t 17), (.t 18)])⟩, ⟨(some 20), none, (.un .not (.t 19))⟩]) (.cond (.t 20) (.seq 
  (.reg [⟨(some 4), none, (.mv (.k (.bool false)))⟩]) .ret) .skip)) (.seq (.seq (.reg [⟨(some 21), none, (.mv (.t 5))⟩, 
  ⟨(some 22), none, (.eq false .i (.t 21) (.k (.int .i64 0)))⟩]) (.cond (.t 22) (.exit 1) .skip)) (.seq (.reg [⟨(some 23), none, (.mv (.t 1))⟩, ⟨(some 24), none, (.mv (.t 5))⟩, 
  ⟨(some 25), none, (.bin .sub (.t 24) (.k (.int .i64 1)))⟩, ⟨(some 26), none, (.ixa 3 (.t 23) (.t 25))⟩, ⟨(some 27), none, (.ld (some 3) (.t 26))⟩, 
  ⟨(some 28), none, (.call f_addr_Span [(.t 27)])⟩, ⟨(some 29), none, (.fld (some 2) 2 (.t 28))⟩, ⟨(some 7), none, (.new [(.int .u64 0), (.int .u64 0)])⟩, 
  ⟨none, none, (.st (some 2) (.t 7) (.t 29))⟩]) (.seq (.reg [⟨(some 31), none, (.ld (some 3) (.t 6))⟩, ⟨(some 32), none, (.call f_buddy_buddyOf [(.t 31)])⟩, 
  ⟨(some 30), none, (.mv (.t 32))⟩, ⟨(some 33), none, (.ext 0 (.t 30))⟩, ⟨(some 34), none, (.ext 1 (.t 30))⟩, ⟨(some 8), none, (.new [(.int .u64 0), (.int .u64 0), (.int .i64 0)])⟩, 
  ⟨none, none, (.st (some 3) (.t 8) (.t 33))⟩, ⟨(some 9), none, (.mv (.t 34))⟩]) (.seq (.drw 0 [⟨⟨(some 35), none, (.ld (some 2) (.t 7))⟩, .ld, [], []⟩, 
  ⟨⟨(some 36), none, (.off 0 (.t 6))⟩, .pure, [0], []⟩, ⟨⟨(some 37), none, (.ld (some 2) (.t 36))⟩, .ld, [], []⟩, 
  ⟨⟨(some 38), none, (.call f_addr_Cmp [(.t 35), (.t 37)])⟩, .eff, [], []⟩, ⟨⟨(some 39), none, (.bin .geq (.t 38) (.k (.int .i64 0)))⟩, .pure, [], []⟩, 
  ⟨⟨(some 40), none, (.mv (.t 39))⟩, .pure, [], []⟩, ⟨⟨(some 41), (some (40, false)), (.ld (some 3) (.t 8))⟩, .ld, [], []⟩, 
  ⟨⟨(some 42), (some (40, false)), (.mv (.t 1))⟩, .pure, [6], []⟩, ⟨⟨(some 43), (some (40, false)), (.mv (.t 5))⟩, .pure, [6], []⟩, 
  ⟨⟨(some 44), (some (40, false)), (.bin .sub (.t 43) (.k (.int .i64 1)))⟩, .pure, [6], []⟩, ⟨⟨(some 45), (some (40, false)), (.ixa 3 (.t 42) (.t 44))⟩, .pure, [6], []⟩, 
  ⟨⟨(some 46), (some (40, false)), (.ld (some 3) (.t 45))⟩, .ld, [], []⟩, 
  ⟨⟨(some 47), (some (40, false)), (.eq false (.st (.sub 0 2 (.st (.one 0 .i (.one 1 .i .nil))) (.one 2 .i .nil))) (.t 41) (.t 46))⟩, .pure, [], []⟩, 
  ⟨⟨(some 48), none, (.pick (.t 40) (.k (.bool true)) (.t 47))⟩, .pure, [], []⟩]) (.cond (.t 48) (.seq (.reg [⟨(some 4), none, (.mv (.k (.bool false)))⟩]) .ret) .skip)))))))) 
  (.reg [⟨(some 49), none, (.bin .add (.t 12) (.k (.int .i64 1)))⟩, ⟨(some 12), none, (.mv (.t 49))⟩]))))))) (.seq (.reg [⟨(some 50), none, (.ld (some 3) (.t 2))⟩, 
  ⟨(some 51), none, (.call f_addr_Sound [(.t 50)])⟩, ⟨(some 4), none, (.mv (.t 51))⟩]) .ret)))⟩
theorem c_buddy_Sound : compF Try.prog ⟨some 67, some 66⟩ Try.f8 = some r_buddy_Sound := by kernel_rfl
/-- tenancy/tenancyref11.Sound -/
def r_r11_Sound : RF :=
  ⟨67, [(.tmp 4)], (.seq (.reg [⟨(some 2), none, (.box (some 3) (.t 0))⟩, ⟨(some 4), none, (.mv (.k (.bool false)))⟩]) (.seq (.seq (.reg [⟨(some 7), none, (.ld (some 3) (.t 2))⟩, 
  ⟨(some 8), none, (.call f_r01_Sound [(.t 7)])⟩, ⟨(some 9), none, (.un .not (.t 8))⟩]) (.cond (.t 9) (.seq (.reg [⟨(some 4), none, (.mv (.k (.bool false)))⟩]) .ret) .skip)) (.seq 
  (.seq (.reg [⟨(some 5), none, (.mv (.k (.int .i64 0)))⟩]) (.block 0 (.loop (.seq (.seq (.reg [⟨(some 10), none, (.mv (.t 5))⟩, ⟨(some 11), none, (.mv (.t 1))⟩, 
  ⟨(some 12), none, (.lenl (.t 11))⟩, ⟨(some 13), none, (.bin .lss (.t 10) (.t 12))⟩]) (.cond (.t 13) .skip (.exit 0))) (.seq (.block 1 (.seq (.seq 
  (.drw 0 [⟨⟨(some 16), none, (.ld (some 3) (.t 2))⟩, .ld, [], []⟩, ⟨⟨(some 17), none, (.mv (.t 1))⟩, .pure, [0], []⟩, ⟨⟨(some 18), none, (.mv (.t 5))⟩, .pure, [0], []⟩, 
  ⟨⟨(some 19), none, (.ixa 3 (.t 17) (.t 18))⟩, .pure, [0], []⟩, ⟨⟨(some 20), none, (.ld (some 3) (.t 19))⟩, .ld, [], []⟩, 
  ⟨⟨(some 21), none, (.call f_r01_Covers [(.t 16), (.t 20)])⟩, .eff, [], []⟩, ⟨⟨(some 22), none, (.un .not (.t 21))⟩, .pure, [], []⟩, 
  ⟨⟨(some 23), none, (.mv (.t 22))⟩, .pure, [], []⟩, ⟨⟨(some 24), (some (23, false)), (.mv (.t 5))⟩, .pure, [], []⟩, 
  ⟨⟨(some 25), (some (23, false)), (.bin .gtr (.t 24) (.k (.int .i64 0)))⟩, .pure, [], []⟩, ⟨⟨(some 26), (some (23, false)), (.mv (.t 25))⟩, .pure, [], []⟩, 
  ⟨⟨(some 27), (some (26, true)), (.mv (.t 1))⟩, .pure, [], []⟩, ⟨⟨(some 28), (some (26, true)), (.mv (.t 5))⟩, .pure, [], []⟩, 
  ⟨⟨(some 29), (some (26, true)), (.bin .sub (.t 28) (.k (.int .i64 1)))⟩, .pure, [], []⟩, ⟨⟨(some 30), (some (26, true)), (.ixa 3 (.t 27) (.t 29))⟩, .pure, [], []⟩, 
  ⟨⟨(some 31), (some (26, true)), (.off 0 (.t 30))⟩, .pure, [], []⟩, ⟨⟨(some 32), (some (26, true)), (.ld (some 2) (.t 31))⟩, .ld, [], []⟩, 
  ⟨⟨(some 33), (some (26, true)), (.mv (.t 1))⟩, .pure, [16], []⟩, ⟨⟨(some 34), (some (26, true)), (.mv (.t 5))⟩, .pure, [16], []⟩, 
  ⟨⟨(some 35), (some (26, true)), (.ixa 3 (.t 33) (.t 34))⟩, .pure, [16], []⟩, ⟨⟨(some 36), (some (26, true)), (.off 0 (.t 35))⟩, .pure, [16], []⟩, 
  ⟨⟨(some 37), (some (26, true)), (.ld (some 2) (.t 36))⟩, .ld, [], []⟩, ⟨⟨(some 38), (some (26, true)), (.call f_r01_Cmp [(.t 32), (.t 37)])⟩, .eff, [], []⟩, 
  ⟨⟨(some 39), (some (26, true)), (.bin .geq (.t 38) (.k (.int .i64 0)))⟩, .pure, [], []⟩, 
  ⟨⟨(some 40), (some (23, false)), (.pick (.t 26) (.t 39) (.k (.bool false)))⟩, .pure, [], []⟩, ⟨⟨(some 41), none, (.pick (.t 23) (.k (.bool true)) (.t 40))⟩, .pure, [], []⟩]) 
  (.cond (.t 41) (.seq (.reg [⟨(some 4), none, (.mv (.k (.bool false)))⟩]) .ret) .skip)) (.seq (.reg [⟨(some 6), none, (.mv (.k (.int .i64 0)))⟩]) (.block 2 (.loop (.seq (.seq 
  (.reg [⟨(some 42), none, (.mv (.t 6))⟩, ⟨(some 43), none, (.mv (.t 5))⟩, ⟨(some 44), none, (.bin .lss (.t 42) (.t 43))⟩]) (.cond (.t 44) .skip (.exit 2))) (.seq (.block 3 (.seq 
  (.drw 0 [⟨⟨(some 47), none, (.mv (.t 1))⟩, .pure, [], []⟩, ⟨⟨(some 48), none, (.mv (.t 5))⟩, .pure, [], []⟩, ⟨⟨(some 49), none, (.ixa 3 (.t 47) (.t 48))⟩, .pure, [], []⟩, 
  ⟨⟨(some 50), none, (.ld (some 3) (.t 49))⟩, .ld, [], []⟩, ⟨⟨(some 51), none, (.mv (.t 1))⟩, .pure, [3], []⟩, ⟨⟨(some 52), none, (.mv (.t 6))⟩, .pure, [3], []⟩, 
  ⟨⟨(some 53), none, (.ixa 3 (.t 51) (.t 52))⟩, .pure, [3], []⟩, ⟨⟨(some 54), none, (.ld (some 3) (.t 53))⟩, .ld, [], []⟩, 
  ⟨⟨(some 55), none, (.call f_r01_Meets [(.t 50), (.t 54)])⟩, .eff, [], []⟩, ⟨⟨(some 56), none, (.mv (.t 55))⟩, .pure, [], []⟩, 
  ⟨⟨(some 57), (some (56, false)), (.mv (.t 1))⟩, .pure, [], []⟩, ⟨⟨(some 58), (some (56, false)), (.mv (.t 6))⟩, .pure, [], []⟩, 
  ⟨⟨(some 59), (some (56, false)), (.ixa 3 (.t 57) (.t 58))⟩, .pure, [], []⟩, ⟨⟨(some 60), (some (56, false)), (.ld (some 3) (.t 59))⟩, .ld, [], []⟩, 
  ⟨⟨(some 61), (some (56, false)), (.mv (.t 1))⟩, .pure, [13], []⟩, ⟨⟨(some 62), (some (56, false)), (.mv (.t 5))⟩, .pure, [13], []⟩, 
  ⟨⟨(some 63), (some (56, false)), (.ixa 3 (.t 61) (.t 62))⟩, .pure, [13], []⟩, ⟨⟨(some 64), (some (56, false)), (.ld (some 3) (.t 63))⟩, .ld, [], []⟩, 
  ⟨⟨(some 65), (some (56, false)), (.call f_r11_pair [(.t 60), (.t 64)])⟩, .eff, [], []⟩, ⟨⟨(some 66), none, (.pick (.t 56) (.k (.bool true)) (.t 65))⟩, .pure, [], []⟩]) 
  (.cond (.t 66) (.seq (.reg [⟨(some 4), none, (.mv (.k (.bool false)))⟩]) .ret) .skip))) (.reg [⟨(some 45), none, (.mv (.t 6))⟩, 
  ⟨(some 46), none, (.bin .add (.t 45) (.k (.int .i64 1)))⟩, ⟨(some 6), none, (.mv (.t 46))⟩])))))))) (.reg [⟨(some 14), none, (.mv (.t 5))⟩, 
  ⟨(some 15), none, (.bin .add (.t 14) (.k (.int .i64 1)))⟩, ⟨(some 5), none, (.mv (.t 15))⟩])))))) (.seq (.reg [⟨(some 4), none, (.mv (.k (.bool true)))⟩]) .ret))))⟩
theorem c_r11_Sound : compF Try.prog ⟨some 67, some 66⟩ Try.f9 = some r_r11_Sound := by kernel_rfl
/-- tenancy/buddy.Fits -/
def r_buddy_Fits : RF :=
  ⟨8, [(.tmp 4)], (.seq (.reg [⟨(some 3), none, (.box none (.t 1))⟩, ⟨(some 4), none, (.mv (.k (.bool false)))⟩]) (.seq (.reg [⟨(some 5), none, (.mv (.t 0))⟩, 
  ⟨(some 6), none, (.mkf f_buddy_Fits_1 [(.t 3)])⟩, ⟨(some 7), none, (.call f_slices_ContainsFunc_Prefix [(.t 5), (.t 6)])⟩, ⟨(some 4), none, (.mv (.t 7))⟩]) .ret))⟩
theorem c_buddy_Fits : compF Try.prog ⟨some 67, some 66⟩ Try.f10 = some r_buddy_Fits := by kernel_rfl
/-- tenancy/tenancyref11.Fits -/
def r_r11_Fits : RF :=
  ⟨19, [(.tmp 4)], (.seq (.reg [⟨(some 4), none, (.mv (.k (.bool false)))⟩]) (.seq (.seq (.reg [⟨(some 5), none, (.mv (.k (.int .i64 0)))⟩]) (.block 0 (.loop (.seq (.seq 
  (.reg [⟨(some 6), none, (.mv (.t 5))⟩, ⟨(some 7), none, (.mv (.t 0))⟩, ⟨(some 8), none, (.lenl (.t 7))⟩, ⟨(some 9), none, (.bin .lss (.t 6) (.t 8))⟩]) 
  (.cond (.t 9) .skip (.exit 0))) (.seq (.block 1 (.seq (.reg [⟨(some 12), none, (.mv (.t 0))⟩, ⟨(some 13), none, (.mv (.t 5))⟩, ⟨(some 14), none, (.ixa 3 (.t 12) (.t 13))⟩, 
  ⟨(some 15), none, (.off 2 (.t 14))⟩, ⟨(some 16), none, (.ld none (.t 15))⟩, ⟨(some 17), none, (.mv (.t 1))⟩, ⟨(some 18), none, (.bin .leq (.t 16) (.t 17))⟩]) (.cond (.t 18) (.seq 
  (.reg [⟨(some 4), none, (.mv (.k (.bool true)))⟩]) .ret) .skip))) (.reg [⟨(some 10), none, (.mv (.t 5))⟩, ⟨(some 11), none, (.bin .add (.t 10) (.k (.int .i64 1)))⟩, 
  ⟨(some 5), none, (.mv (.t 11))⟩])))))) (.seq (.reg [⟨(some 4), none, (.mv (.k (.bool false)))⟩]) .ret)))⟩
theorem c_r11_Fits : compF Try.prog ⟨some 67, some 66⟩ Try.f11 = some r_r11_Fits := by kernel_rfl
/-- tenancy/buddy.Take -/
def r_buddy_Take : RF :=
  ⟨70, [(.tmp 6), (.cell (some 3) 7), (.tmp 8)], (.seq (.reg [⟨(some 3), none, (.box (some 3) (.t 0))⟩, ⟨(some 6), none, (.mv (.k .nils))⟩, 
  ⟨(some 7), none, (.new [(.int .u64 0), (.int .u64 0), (.int .i64 0)])⟩, ⟨(some 8), none, (.mv (.k (.int .i64 0)))⟩]) (.seq (.seq (.reg [⟨(some 13), none, (.ld (some 3) (.t 3))⟩, 
  ⟨(some 14), none, (.mv (.t 1))⟩, ⟨(some 15), none, (.call f_buddy_Sound [(.t 13), (.t 14)])⟩, ⟨(some 16), none, (.un .not (.t 15))⟩, ⟨(some 17), none, (.mv (.t 16))⟩, 
  ⟨(some 18), (some (17, false)), (.mv (.t 2))⟩, ⟨(some 19), (some (17, false)), (.off 2 (.t 3))⟩, ⟨(some 20), (some (17, false)), (.ld none (.t 19))⟩, 
  ⟨(some 21), (some (17, false)), (.bin .lss (.t 18) (.t 20))⟩, ⟨(some 22), none, (.pick (.t 17) (.k (.bool true)) (.t 21))⟩, ⟨(some 23), none, (.mv (.t 22))⟩, 
  ⟨(some 24), (some (23, false)), (.mv (.t 2))⟩, ⟨(some 25), (some (23, false)), (.bin .gtr (.t 24) (.k (.int .i64 128)))⟩, 
  ⟨(some 26), none, (.pick (.t 23) (.k (.bool true)) (.t 25))⟩]) (.cond (.t 26) (.seq (.reg [⟨(some 27), none, (.bld [(.int .u64 0), (.int .u64 0), (.int .i64 0)] [])⟩, 
  ⟨(some 6), none, (.mv (.k .nils))⟩, ⟨none, none, (.st (some 3) (.t 7) (.t 27))⟩, ⟨(some 8), none, (.mv (.k (.int .i64 1)))⟩]) .ret) .skip)) (.seq 
  (.reg [⟨(some 9), none, (.mv (.k (.int .i64 (-1))))⟩]) (.seq (.seq (.reg [⟨(some 28), none, (.mv (.t 1))⟩, ⟨(some 29), none, (.lenl (.t 28))⟩, 
  ⟨(some 30), none, (.mv (.k (.int .i64 0)))⟩]) (.block 0 (.loop (.seq (.reg [⟨(some 31), none, (.bin .lss (.t 30) (.t 29))⟩]) (.seq (.cond (.t 31) .skip (.exit 0)) (.seq (.block 1 
  (.seq (.reg [⟨(some 32), none, (.mv (.t 30))⟩, ⟨(some 33), none, (.ixa 3 (.t 28) (.t 30))⟩, ⟨(some 34), none, (.ld (some 3) (.t 33))⟩, 
  ⟨(some 11), none, (.new [(.int .u64 0), (.int .u64 0), (.int .i64 0)])⟩, ⟨(some 10), none, (.mv (.t 32))⟩, ⟨none, none, (.st (some 3) (.t 11) (.t 34))⟩]) (.seq 
  (.drw 0 [⟨⟨(some 35), none, (.off 2 (.t 11))⟩, .pure, [], []⟩, ⟨⟨(some 36), none, (.ld none (.t 35))⟩, .ld, [], []⟩, ⟨⟨(some 37), none, (.mv (.t 2))⟩, .pure, [1], []⟩, 
  ⟨⟨(some 38), none, (.bin .leq (.t 36) (.t 37))⟩, .pure, [], []⟩, ⟨⟨(some 39), none, (.mv (.t 38))⟩, .pure, [], []⟩, ⟨⟨(some 40), (some (39, true)), (.mv (.t 9))⟩, .pure, [], []⟩, 
  ⟨⟨(some 41), (some (39, true)), (.bin .lss (.t 40) (.k (.int .i64 0)))⟩, .pure, [], []⟩, ⟨⟨(some 42), (some (39, true)), (.mv (.t 41))⟩, .pure, [], []⟩, 
  ⟨⟨(some 43), (some (42, false)), (.off 2 (.t 11))⟩, .pure, [], []⟩, ⟨⟨(some 44), (some (42, false)), (.ld none (.t 43))⟩, .ld, [], []⟩, 
  ⟨⟨(some 45), (some (42, false)), (.mv (.t 1))⟩, .pure, [9], []⟩, ⟨⟨(some 46), (some (42, false)), (.mv (.t 9))⟩, .pure, [9], []⟩, 
  ⟨⟨(some 47), (some (42, false)), (.ixa 3 (.t 45) (.t 46))⟩, .pure, [9], []⟩, ⟨⟨(some 48), (some (42, false)), (.off 2 (.t 47))⟩, .pure, [9], []⟩, 
  ⟨⟨(some 49), (some (42, false)), (.ld none (.t 48))⟩, .ld, [], []⟩, ⟨⟨(some 50), (some (42, false)), (.bin .gtr (.t 44) (.t 49))⟩, .pure, [], []⟩, 
  ⟨⟨(some 51), (some (39, true)), (.pick (.t 42) (.k (.bool true)) (.t 50))⟩, .pure, [], []⟩, ⟨⟨(some 52), none, (.pick (.t 39) (.t 51) (.k (.bool false)))⟩, .pure, [], []⟩]) 
  (.cond (.t 52) (.reg [⟨(some 53), none, (.mv (.t 10))⟩, ⟨(some 9), none, (.mv (.t 53))⟩]) .skip)))) (.reg [⟨(some 54), none, (.bin .add (.t 30) (.k (.int .i64 1)))⟩, 
  ⟨(some 30), none, (.mv (.t 54))⟩]))))))) (.seq (.seq (.reg [⟨(some 55), none, (.mv (.t 9))⟩, ⟨(some 56), none, (.bin .lss (.t 55) (.k (.int .i64 0)))⟩]) (.cond (.t 56) (.seq 
  (.reg [⟨(some 57), none, (.bld [(.int .u64 0), (.int .u64 0), (.int .i64 0)] [])⟩, ⟨(some 6), none, (.mv (.k .nils))⟩, ⟨none, none, (.st (some 3) (.t 7) (.t 57))⟩, 
  ⟨(some 8), none, (.mv (.k (.int .i64 110)))⟩]) .ret) .skip)) (.seq (.reg [⟨(some 58), none, (.mv (.t 1))⟩, ⟨(some 59), none, (.mv (.t 9))⟩, 
  ⟨(some 60), none, (.ixa 3 (.t 58) (.t 59))⟩, ⟨(some 61), none, (.off 0 (.t 60))⟩, ⟨(some 62), none, (.ld (some 2) (.t 61))⟩, ⟨(some 63), none, (.mv (.t 2))⟩, 
  ⟨(some 64), none, (.bld [(.int .u64 0), (.int .u64 0), (.int .i64 0)] [(0, (2, (.t 62))), (2, (1, (.t 63)))])⟩, 
  ⟨(some 12), none, (.new [(.int .u64 0), (.int .u64 0), (.int .i64 0)])⟩, ⟨none, none, (.st (some 3) (.t 12) (.t 64))⟩]) (.seq 
  (.drw 0 [⟨⟨(some 65), none, (.mv (.t 1))⟩, .pure, [], []⟩, ⟨⟨(some 66), none, (.mv (.t 9))⟩, .pure, [], []⟩, ⟨⟨(some 67), none, (.ld (some 3) (.t 12))⟩, .ld, [], []⟩, 
  ⟨⟨(some 68), none, (.call f_buddy_without [(.t 65), (.t 66), (.t 67)])⟩, .eff, [], []⟩, ⟨⟨(some 69), none, (.ld (some 3) (.t 12))⟩, .ld, [3], []⟩, 
  ⟨⟨(some 6), none, (.mv (.t 68))⟩, .pure, [4], []⟩, ⟨⟨none, none, (.st (some 3) (.t 7) (.t 69))⟩, .eff, [], []⟩, 
  ⟨⟨(some 8), none, (.mv (.k (.int .i64 0)))⟩, .pure, [], []⟩]) .ret)))))))⟩
theorem c_buddy_Take : compF Try.prog ⟨some 67, some 66⟩ Try.f12 = some r_buddy_Take := by kernel_rfl
/-- tenancy/tenancyref11.Take -/
def r_r11_Take : RF :=
  ⟨74, [(.tmp 6), (.cell (some 3) 7), (.tmp 8)], (.seq (.reg [⟨(some 3), none, (.box (some 3) (.t 0))⟩, ⟨(some 6), none, (.mv (.k .nils))⟩, 
  ⟨(some 7), none, (.new [(.int .u64 0), (.int .u64 0), (.int .i64 0)])⟩, ⟨(some 8), none, (.mv (.k (.int .i64 0)))⟩]) (.seq (.seq (.reg [⟨(some 12), none, (.ld (some 3) (.t 3))⟩, 
  ⟨(some 13), none, (.mv (.t 1))⟩, ⟨(some 14), none, (.call f_r11_Sound [(.t 12), (.t 13)])⟩, ⟨(some 15), none, (.un .not (.t 14))⟩, ⟨(some 16), none, (.mv (.t 15))⟩, 
  ⟨(some 17), (some (16, false)), (.mv (.t 2))⟩, ⟨(some 18), (some (16, false)), (.off 2 (.t 3))⟩, ⟨(some 19), (some (16, false)), (.ld none (.t 18))⟩, 
  ⟨(some 20), (some (16, false)), (.bin .lss (.t 17) (.t 19))⟩, ⟨(some 21), none, (.pick (.t 16) (.k (.bool true)) (.t 20))⟩, ⟨(some 22), none, (.mv (.t 21))⟩, 
  ⟨(some 23), (some (22, false)), (.mv (.t 2))⟩, ⟨(some 24), (some (22, false)), (.bin .gtr (.t 23) (.k (.int .i64 128)))⟩, 
  ⟨(some 25), none, (.pick (.t 22) (.k (.bool true)) (.t 24))⟩]) (.cond (.t 25) (.seq (.reg [⟨(some 26), none, (.bld [(.int .u64 0), (.int .u64 0), (.int .i64 0)] [])⟩, 
  ⟨(some 6), none, (.mv (.k .nils))⟩, ⟨none, none, (.st (some 3) (.t 7) (.t 26))⟩, ⟨(some 8), none, (.mv (.k (.int .i64 1)))⟩]) .ret) .skip)) (.seq 
  (.reg [⟨(some 9), none, (.mv (.k (.int .i64 (-1))))⟩]) (.seq (.seq (.reg [⟨(some 10), none, (.mv (.k (.int .i64 0)))⟩]) (.block 0 (.loop (.seq (.seq 
  (.reg [⟨(some 27), none, (.mv (.t 10))⟩, ⟨(some 28), none, (.mv (.t 1))⟩, ⟨(some 29), none, (.lenl (.t 28))⟩, ⟨(some 30), none, (.bin .lss (.t 27) (.t 29))⟩]) 
  (.cond (.t 30) .skip (.exit 0))) (.seq (.block 1 (.seq (.drw 0 [⟨⟨(some 33), none, (.mv (.t 1))⟩, .pure, [], []⟩, ⟨⟨(some 34), none, (.mv (.t 10))⟩, .pure, [], []⟩, 
  ⟨⟨(some 35), none, (.ixa 3 (.t 33) (.t 34))⟩, .pure, [], []⟩, ⟨⟨(some 36), none, (.off 2 (.t 35))⟩, .pure, [], []⟩, ⟨⟨(some 37), none, (.ld none (.t 36))⟩, .ld, [], []⟩, 
  ⟨⟨(some 38), none, (.mv (.t 2))⟩, .pure, [4], []⟩, ⟨⟨(some 39), none, (.bin .leq (.t 37) (.t 38))⟩, .pure, [], []⟩, ⟨⟨(some 40), none, (.mv (.t 39))⟩, .pure, [], []⟩, 
  ⟨⟨(some 41), (some (40, true)), (.mv (.t 9))⟩, .pure, [], []⟩, ⟨⟨(some 42), (some (40, true)), (.bin .lss (.t 41) (.k (.int .i64 0)))⟩, .pure, [], []⟩, 
  ⟨⟨(some 43), (some (40, true)), (.mv (.t 42))⟩, .pure, [], []⟩, ⟨⟨(some 44), (some (43, false)), (.mv (.t 1))⟩, .pure, [], []⟩, 
  ⟨⟨(some 45), (some (43, false)), (.mv (.t 10))⟩, .pure, [], []⟩, ⟨⟨(some 46), (some (43, false)), (.ixa 3 (.t 44) (.t 45))⟩, .pure, [], []⟩, 
  ⟨⟨(some 47), (some (43, false)), (.off 2 (.t 46))⟩, .pure, [], []⟩, ⟨⟨(some 48), (some (43, false)), (.ld none (.t 47))⟩, .ld, [], []⟩, 
  ⟨⟨(some 49), (some (43, false)), (.mv (.t 1))⟩, .pure, [15], []⟩, ⟨⟨(some 50), (some (43, false)), (.mv (.t 9))⟩, .pure, [15], []⟩, 
  ⟨⟨(some 51), (some (43, false)), (.ixa 3 (.t 49) (.t 50))⟩, .pure, [15], []⟩, ⟨⟨(some 52), (some (43, false)), (.off 2 (.t 51))⟩, .pure, [15], []⟩, 
  ⟨⟨(some 53), (some (43, false)), (.ld none (.t 52))⟩, .ld, [], []⟩, ⟨⟨(some 54), (some (43, false)), (.bin .gtr (.t 48) (.t 53))⟩, .pure, [], []⟩, 
  ⟨⟨(some 55), (some (40, true)), (.pick (.t 43) (.k (.bool true)) (.t 54))⟩, .pure, [], []⟩, ⟨⟨(some 56), none, (.pick (.t 40) (.t 55) (.k (.bool false)))⟩, .pure, [], []⟩]) 
  (.cond (.t 56) (.reg [⟨(some 57), none, (.mv (.t 10))⟩, ⟨(some 9), none, (.mv (.t 57))⟩]) .skip))) (.reg [⟨(some 31), none, (.mv (.t 10))⟩, 
  ⟨(some 32), none, (.bin .add (.t 31) (.k (.int .i64 1)))⟩, ⟨(some 10), none, (.mv (.t 32))⟩])))))) (.seq (.seq (.reg [⟨(some 58), none, (.mv (.t 9))⟩, 
  ⟨(some 59), none, (.bin .lss (.t 58) (.k (.int .i64 0)))⟩]) (.cond (.t 59) (.seq (.reg [⟨(some 60), none, (.bld [(.int .u64 0), (.int .u64 0), (.int .i64 0)] [])⟩, 
  ⟨(some 6), none, (.mv (.k .nils))⟩, ⟨none, none, (.st (some 3) (.t 7) (.t 60))⟩, ⟨(some 8), none, (.mv (.k (.int .i64 110)))⟩]) .ret) .skip)) (.seq 
  (.reg [⟨(some 61), none, (.mv (.t 1))⟩, ⟨(some 62), none, (.mv (.t 9))⟩, ⟨(some 63), none, (.ixa 3 (.t 61) (.t 62))⟩, ⟨(some 64), none, (.off 0 (.t 63))⟩, 
  ⟨(some 65), none, (.ld (some 2) (.t 64))⟩, ⟨(some 66), none, (.mv (.t 2))⟩, 
  ⟨(some 67), none, (.bld [(.int .u64 0), (.int .u64 0), (.int .i64 0)] [(0, (2, (.t 65))), (2, (1, (.t 66)))])⟩, 
  ⟨(some 11), none, (.new [(.int .u64 0), (.int .u64 0), (.int .i64 0)])⟩, ⟨none, none, (.st (some 3) (.t 11) (.t 67))⟩]) (.seq 
  (.drw 1 [⟨⟨(some 68), none, (.ld (some 3) (.t 3))⟩, .ld, [], []⟩, ⟨⟨(some 69), none, (.mv (.t 1))⟩, .pure, [0], []⟩, ⟨⟨(some 70), none, (.ld (some 3) (.t 11))⟩, .ld, [], []⟩, 
  ⟨⟨(some 71), none, (.bsl 3 1 [(.int .u64 0), (.int .u64 0), (.int .i64 0)] [(0, (3, (.t 70)))])⟩, (.new 0), [0], []⟩, 
  ⟨⟨(some 72), none, (.call f_r11_rest [(.t 68), (.t 69), (.t 71)])⟩, .eff, [], []⟩, ⟨⟨(some 73), none, (.ld (some 3) (.t 11))⟩, .ld, [4], []⟩, 
  ⟨⟨(some 6), none, (.mv (.t 72))⟩, .pure, [5], []⟩, ⟨⟨none, none, (.st (some 3) (.t 7) (.t 73))⟩, .eff, [], []⟩, 
  ⟨⟨(some 8), none, (.mv (.k (.int .i64 0)))⟩, .pure, [], []⟩]) .ret)))))))⟩
theorem c_r11_Take : compF Try.prog ⟨some 67, some 66⟩ Try.f13 = some r_r11_Take := by kernel_rfl
/-- tenancy/tenancylaw11.same -/
def r_w11_same : RF :=
  ⟨26, [(.tmp 4)], (.seq (.reg [⟨(some 4), none, (.mv (.k (.bool false)))⟩]) (.seq (.seq (.reg [⟨(some 6), none, (.mv (.t 0))⟩, ⟨(some 7), none, (.lenl (.t 6))⟩, 
  ⟨(some 8), none, (.mv (.t 1))⟩, ⟨(some 9), none, (.lenl (.t 8))⟩, ⟨(some 10), none, (.eq true .i (.t 7) (.t 9))⟩]) (.cond (.t 10) (.seq 
  (.reg [⟨(some 4), none, (.mv (.k (.bool false)))⟩]) .ret) .skip)) (.seq (.seq (.reg [⟨(some 5), none, (.mv (.k (.int .i64 0)))⟩]) (.block 0 (.loop (.seq (.seq 
  (.reg [⟨(some 11), none, (.mv (.t 5))⟩, ⟨(some 12), none, (.mv (.t 0))⟩, ⟨(some 13), none, (.lenl (.t 12))⟩, ⟨(some 14), none, (.bin .lss (.t 11) (.t 13))⟩]) 
  (.cond (.t 14) .skip (.exit 0))) (.seq (.block 1 (.seq (.drw 0 [⟨⟨(some 17), none, (.mv (.t 0))⟩, .pure, [], []⟩, ⟨⟨(some 18), none, (.mv (.t 5))⟩, .pure, [], []⟩, 
  ⟨⟨(some 19), none, (.ixa 3 (.t 17) (.t 18))⟩, .pure, [], []⟩, ⟨⟨(some 20), none, (.ld (some 3) (.t 19))⟩, .ld, [], []⟩, ⟨⟨(some 21), none, (.mv (.t 1))⟩, .pure, [3], []⟩, 
  ⟨⟨(some 22), none, (.mv (.t 5))⟩, .pure, [3], []⟩, ⟨⟨(some 23), none, (.ixa 3 (.t 21) (.t 22))⟩, .pure, [3], []⟩, ⟨⟨(some 24), none, (.ld (some 3) (.t 23))⟩, .ld, [], []⟩, 
  ⟨⟨(some 25), none, (.eq true (.st (.sub 0 2 (.st (.one 0 .i (.one 1 .i .nil))) (.one 2 .i .nil))) (.t 20) (.t 24))⟩, .pure, [], []⟩]) (.cond (.t 25) (.seq 
  (.reg [⟨(some 4), none, (.mv (.k (.bool false)))⟩]) .ret) .skip))) (.reg [⟨(some 15), none, (.mv (.t 5))⟩, ⟨(some 16), none, (.bin .add (.t 15) (.k (.int .i64 1)))⟩, 
  ⟨(some 5), none, (.mv (.t 16))⟩])))))) (.seq (.reg [⟨(some 4), none, (.mv (.k (.bool true)))⟩]) .ret))))⟩
theorem c_w11_same : compF Try.prog ⟨some 67, some 66⟩ Try.f14 = some r_w11_same := by kernel_rfl
/-- tenancy/buddy.Reserve -/
def r_buddy_Reserve : RF :=
  ⟨28, [(.tmp 6), (.tmp 7)], (.seq (.reg [⟨(some 3), none, (.box (some 3) (.t 0))⟩, ⟨(some 5), none, (.box (some 3) (.t 2))⟩, ⟨(some 6), none, (.mv (.k .nils))⟩, 
  ⟨(some 7), none, (.mv (.k (.int .i64 0)))⟩]) (.seq (.seq (.reg [⟨(some 9), none, (.ld (some 3) (.t 3))⟩, ⟨(some 10), none, (.mv (.t 1))⟩, 
  ⟨(some 11), none, (.call f_buddy_Sound [(.t 9), (.t 10)])⟩, ⟨(some 12), none, (.un .not (.t 11))⟩, ⟨(some 13), none, (.mv (.t 12))⟩, 
  ⟨(some 14), (some (13, false)), (.ld (some 3) (.t 3))⟩, ⟨(some 15), (some (13, false)), (.ld (some 3) (.t 5))⟩, 
  ⟨(some 16), (some (13, false)), (.call f_addr_Covers [(.t 14), (.t 15)])⟩, ⟨(some 17), (some (13, false)), (.un .not (.t 16))⟩, 
  ⟨(some 18), none, (.pick (.t 13) (.k (.bool true)) (.t 17))⟩]) (.cond (.t 18) (.seq (.reg [⟨(some 6), none, (.mv (.k .nils))⟩, 
  ⟨(some 7), none, (.mv (.k (.int .i64 1)))⟩]) .ret) .skip)) (.seq (.reg [⟨(some 19), none, (.mv (.t 1))⟩, ⟨(some 20), none, (.mkf f_buddy_Reserve_1 [(.t 5)])⟩, 
  ⟨(some 21), none, (.call f_slices_IndexFunc_Prefix [(.t 19), (.t 20)])⟩, ⟨(some 8), none, (.mv (.t 21))⟩]) (.seq (.seq (.reg [⟨(some 22), none, (.mv (.t 8))⟩, 
  ⟨(some 23), none, (.bin .lss (.t 22) (.k (.int .i64 0)))⟩]) (.cond (.t 23) (.seq (.reg [⟨(some 6), none, (.mv (.k .nils))⟩, 
  ⟨(some 7), none, (.mv (.k (.int .i64 110)))⟩]) .ret) .skip)) (.seq (.reg [⟨(some 24), none, (.mv (.t 1))⟩, ⟨(some 25), none, (.mv (.t 8))⟩, 
  ⟨(some 26), none, (.ld (some 3) (.t 5))⟩, ⟨(some 27), none, (.call f_buddy_without [(.t 24), (.t 25), (.t 26)])⟩, ⟨(some 6), none, (.mv (.t 27))⟩, 
  ⟨(some 7), none, (.mv (.k (.int .i64 0)))⟩]) .ret)))))⟩
theorem c_buddy_Reserve : compF Try.prog ⟨some 67, some 66⟩ Try.f15 = some r_buddy_Reserve := by kernel_rfl
/-- tenancy/tenancyref11.Reserve -/
def r_r11_Reserve : RF :=
  ⟨27, [(.tmp 6), (.tmp 7)], (.seq (.reg [⟨(some 3), none, (.box (some 3) (.t 0))⟩, ⟨(some 5), none, (.box (some 3) (.t 2))⟩, ⟨(some 6), none, (.mv (.k .nils))⟩, 
  ⟨(some 7), none, (.mv (.k (.int .i64 0)))⟩]) (.seq (.seq (.reg [⟨(some 8), none, (.ld (some 3) (.t 3))⟩, ⟨(some 9), none, (.mv (.t 1))⟩, 
  ⟨(some 10), none, (.call f_r11_Sound [(.t 8), (.t 9)])⟩, ⟨(some 11), none, (.un .not (.t 10))⟩, ⟨(some 12), none, (.mv (.t 11))⟩, 
  ⟨(some 13), (some (12, false)), (.ld (some 3) (.t 3))⟩, ⟨(some 14), (some (12, false)), (.ld (some 3) (.t 5))⟩, 
  ⟨(some 15), (some (12, false)), (.call f_r01_Covers [(.t 13), (.t 14)])⟩, ⟨(some 16), (some (12, false)), (.un .not (.t 15))⟩, 
  ⟨(some 17), none, (.pick (.t 12) (.k (.bool true)) (.t 16))⟩]) (.cond (.t 17) (.seq (.reg [⟨(some 6), none, (.mv (.k .nils))⟩, 
  ⟨(some 7), none, (.mv (.k (.int .i64 1)))⟩]) .ret) .skip)) (.seq (.seq (.reg [⟨(some 18), none, (.mv (.t 1))⟩, ⟨(some 19), none, (.ld (some 3) (.t 5))⟩, 
  ⟨(some 20), none, (.call f_r11_covered [(.t 18), (.t 19)])⟩, ⟨(some 21), none, (.un .not (.t 20))⟩]) (.cond (.t 21) (.seq (.reg [⟨(some 6), none, (.mv (.k .nils))⟩, 
  ⟨(some 7), none, (.mv (.k (.int .i64 110)))⟩]) .ret) .skip)) (.seq (.reg [⟨(some 22), none, (.ld (some 3) (.t 3))⟩, ⟨(some 23), none, (.mv (.t 1))⟩, 
  ⟨(some 24), none, (.ld (some 3) (.t 5))⟩, ⟨(some 25), none, (.bsl 3 1 [(.int .u64 0), (.int .u64 0), (.int .i64 0)] [(0, (3, (.t 24)))])⟩, 
  ⟨(some 26), none, (.call f_r11_rest [(.t 22), (.t 23), (.t 25)])⟩, ⟨(some 6), none, (.mv (.t 26))⟩, ⟨(some 7), none, (.mv (.k (.int .i64 0)))⟩]) .ret))))⟩
theorem c_r11_Reserve : compF Try.prog ⟨some 67, some 66⟩ Try.f16 = some r_r11_Reserve := by kernel_rfl
/-- tenancy/buddy.Give -/
def r_buddy_Give : RF :=
  ⟨63, [(.tmp 6), (.tmp 7)], (.seq (.reg [⟨(some 3), none, (.box (some 3) (.t 0))⟩, ⟨(some 5), none, (.box (some 3) (.t 2))⟩, ⟨(some 6), none, (.mv (.k .nils))⟩, 
  ⟨(some 7), none, (.mv (.k (.int .i64 0)))⟩]) (.seq (.seq (.reg [⟨(some 12), none, (.ld (some 3) (.t 3))⟩, ⟨(some 13), none, (.mv (.t 1))⟩, 
  ⟨(some 14), none, (.call f_buddy_Sound [(.t 12), (.t 13)])⟩, ⟨(some 15), none, (.un .not (.t 14))⟩, ⟨(some 16), none, (.mv (.t 15))⟩, 
  ⟨(some 17), (some (16, false)), (.ld (some 3) (.t 3))⟩, ⟨(some 18), (some (16, false)), (.ld (some 3) (.t 5))⟩, 
  ⟨(some 19), (some (16, false)), (.call f_addr_Covers [(.t 17), (.t 18)])⟩, ⟨(some 20), (some (16, false)), (.un .not (.t 19))⟩, 
  ⟨(some 21), none, (.pick (.t 16) (.k (.bool true)) (.t 20))⟩]) (.cond (.t 21) (.seq (.reg [⟨(some 6), none, (.mv (.k .nils))⟩, 
  ⟨(some 7), none, (.mv (.k (.int .i64 1)))⟩]) .ret) .skip)) (.seq (.seq (.reg [⟨(some 22), none, (.mv (.t 1))⟩, ⟨(some 23), none, (.mkf f_buddy_Give_1 [(.t 5)])⟩, 
  ⟨(some 24), none, (.call f_slices_ContainsFunc_Prefix [(.t 22), (.t 23)])⟩]) (.cond (.t 24) (.seq (.reg [⟨(some 6), none, (.mv (.k .nils))⟩, 
  ⟨(some 7), none, (.mv (.k (.int .i64 110)))⟩]) .ret) .skip)) (.seq (.reg [⟨(some 25), none, (.mv (.t 1))⟩, ⟨(some 26), none, (.call f_slices_Clone_Prefix [(.t 25)])⟩, 
  ⟨(some 8), none, (.mv (.t 26))⟩]) (.seq (.block 0 (.loop (.seq (.seq (.reg [⟨(some 27), none, (.off 2 (.t 5))⟩, ⟨(some 28), none, (.ld none (.t 27))⟩, 
  ⟨(some 29), none, (.off 2 (.t 3))⟩, ⟨(some 30), none, (.ld none (.t 29))⟩, ⟨(some 31), none, (.bin .gtr (.t 28) (.t 30))⟩]) (.cond (.t 31) .skip (.exit 0))) (.block 1 (.seq 
  (.reg [⟨(some 33), none, (.ld (some 3) (.t 5))⟩, ⟨(some 34), none, (.call f_buddy_buddyOf [(.t 33)])⟩, ⟨(some 32), none, (.mv (.t 34))⟩, ⟨(some 35), none, (.ext 0 (.t 32))⟩, 
  ⟨(some 36), none, (.ext 1 (.t 32))⟩, ⟨(some 9), none, (.new [(.int .u64 0), (.int .u64 0), (.int .i64 0)])⟩, ⟨none, none, (.st (some 3) (.t 9) (.t 35))⟩, 
  ⟨(some 10), none, (.mv (.t 36))⟩]) (.seq (.reg [⟨(some 37), none, (.mv (.t 8))⟩, ⟨(some 38), none, (.ld (some 3) (.t 9))⟩, 
  ⟨(some 39), none, (.call f_slices_Index_Prefix [(.t 37), (.t 38)])⟩, ⟨(some 11), none, (.mv (.t 39))⟩]) (.seq (.seq (.reg [⟨(some 40), none, (.mv (.t 11))⟩, 
  ⟨(some 41), none, (.bin .lss (.t 40) (.k (.int .i64 0)))⟩]) (.cond (.t 41) (.exit 0) .skip)) (.seq (.reg [⟨(some 42), none, (.mv (.t 8))⟩, ⟨(some 43), none, (.mv (.t 11))⟩, 
  ⟨(some 44), none, (.mv (.t 11))⟩, ⟨(some 45), none, (.bin .add (.t 44) (.k (.int .i64 1)))⟩, ⟨(some 46), none, (.call f_slices_Delete_Prefix [(.t 42), (.t 43), (.t 45)])⟩, 
  ⟨(some 8), none, (.mv (.t 46))⟩]) (.reg [⟨(some 48), none, (.off 0 (.t 5))⟩, ⟨(some 49), none, (.ld (some 2) (.t 48))⟩, ⟨(some 50), none, (.off 2 (.t 5))⟩, 
  ⟨(some 51), none, (.ld none (.t 50))⟩, ⟨(some 52), none, (.bin .sub (.t 51) (.k (.int .i64 1)))⟩, ⟨(some 53), none, (.call f_addr_Clip [(.t 49), (.t 52)])⟩, 
  ⟨(some 47), none, (.mv (.t 53))⟩, ⟨(some 54), none, (.ext 0 (.t 47))⟩, ⟨(some 55), none, (.ext 1 (.t 47))⟩, ⟨none, none, (.st (some 3) (.t 5) (.t 54))⟩]))))))))) (.seq 
  (.reg [⟨(some 56), none, (.mv (.t 8))⟩, ⟨(some 57), none, (.ld (some 3) (.t 5))⟩, ⟨(some 58), none, (.bsl 3 1 [(.int .u64 0), (.int .u64 0), (.int .i64 0)] [(0, (3, (.t 57)))])⟩, 
  ⟨(some 59), none, (.app 3 24 (.t 56) (.t 58))⟩, ⟨(some 8), none, (.mv (.t 59))⟩]) (.seq (.reg [⟨(some 60), none, (.mv (.t 8))⟩, 
  ⟨(some 61), none, (.call f_slices_SortFunc_Prefix [(.t 60), (.k (.fn f_buddy_compare []))])⟩]) (.seq (.reg [⟨(some 62), none, (.mv (.t 8))⟩, ⟨(some 6), none, (.mv (.t 62))⟩, 
  ⟨(some 7), none, (.mv (.k (.int .i64 0)))⟩]) .ret))))))))⟩
theorem c_buddy_Give : compF Try.prog ⟨some 67, some 66⟩ Try.f17 = some r_buddy_Give := by kernel_rfl
/-- tenancy/tenancyref11.Give -/
def r_r11_Give : RF :=
  ⟨30, [(.tmp 6), (.tmp 7)], (.seq (.reg [⟨(some 3), none, (.box (some 3) (.t 0))⟩, ⟨(some 5), none, (.box (some 3) (.t 2))⟩, ⟨(some 6), none, (.mv (.k .nils))⟩, 
  ⟨(some 7), none, (.mv (.k (.int .i64 0)))⟩]) (.seq (.seq (.reg [⟨(some 9), none, (.ld (some 3) (.t 3))⟩, ⟨(some 10), none, (.mv (.t 1))⟩, 
  ⟨(some 11), none, (.call f_r11_Sound [(.t 9), (.t 10)])⟩, ⟨(some 12), none, (.un .not (.t 11))⟩, ⟨(some 13), none, (.mv (.t 12))⟩, 
  ⟨(some 14), (some (13, false)), (.ld (some 3) (.t 3))⟩, ⟨(some 15), (some (13, false)), (.ld (some 3) (.t 5))⟩, 
  ⟨(some 16), (some (13, false)), (.call f_r01_Covers [(.t 14), (.t 15)])⟩, ⟨(some 17), (some (13, false)), (.un .not (.t 16))⟩, 
  ⟨(some 18), none, (.pick (.t 13) (.k (.bool true)) (.t 17))⟩]) (.cond (.t 18) (.seq (.reg [⟨(some 6), none, (.mv (.k .nils))⟩, 
  ⟨(some 7), none, (.mv (.k (.int .i64 1)))⟩]) .ret) .skip)) (.seq (.seq (.reg [⟨(some 19), none, (.mv (.t 1))⟩, ⟨(some 20), none, (.ld (some 3) (.t 5))⟩, 
  ⟨(some 21), none, (.call f_r11_met [(.t 19), (.t 20)])⟩]) (.cond (.t 21) (.seq (.reg [⟨(some 6), none, (.mv (.k .nils))⟩, 
  ⟨(some 7), none, (.mv (.k (.int .i64 110)))⟩]) .ret) .skip)) (.seq (.reg [⟨(some 22), none, (.ld (some 3) (.t 5))⟩, 
  ⟨(some 23), none, (.bsl 3 1 [(.int .u64 0), (.int .u64 0), (.int .i64 0)] [(0, (3, (.t 22)))])⟩, ⟨(some 8), none, (.mv (.t 23))⟩]) (.seq (.reg [⟨(some 24), none, (.mv (.t 8))⟩, 
  ⟨(some 25), none, (.mv (.t 1))⟩, ⟨(some 26), none, (.app 3 24 (.t 24) (.t 25))⟩, ⟨(some 8), none, (.mv (.t 26))⟩]) (.seq (.reg [⟨(some 27), none, (.ld (some 3) (.t 3))⟩, 
  ⟨(some 28), none, (.mv (.t 8))⟩, ⟨(some 29), none, (.call f_r11_rest [(.t 27), (.t 28), (.k .nils)])⟩, ⟨(some 6), none, (.mv (.t 29))⟩, 
  ⟨(some 7), none, (.mv (.k (.int .i64 0)))⟩]) .ret))))))⟩
theorem c_r11_Give : compF Try.prog ⟨some 67, some 66⟩ Try.f18 = some r_r11_Give := by kernel_rfl
/-- tenancy/buddy.Free -/
def r_buddy_Free : RF :=
  ⟨40, [(.tmp 4), (.tmp 5)], (.seq (.reg [⟨(some 2), none, (.box (some 3) (.t 0))⟩, ⟨(some 4), none, (.mv (.k .nils))⟩, ⟨(some 5), none, (.mv (.k (.int .i64 0)))⟩]) (.seq (.seq 
  (.reg [⟨(some 11), none, (.ld (some 3) (.t 2))⟩, ⟨(some 12), none, (.call f_addr_Sound [(.t 11)])⟩, ⟨(some 13), none, (.un .not (.t 12))⟩, ⟨(some 14), none, (.mv (.t 13))⟩, 
  ⟨(some 15), (some (14, false)), (.mv (.t 1))⟩, ⟨(some 16), (some (14, false)), (.mkf f_buddy_Free_1 [(.t 2)])⟩, 
  ⟨(some 17), (some (14, false)), (.call f_slices_ContainsFunc_Prefix [(.t 15), (.t 16)])⟩, ⟨(some 18), none, (.pick (.t 14) (.k (.bool true)) (.t 17))⟩]) (.cond (.t 18) (.seq 
  (.reg [⟨(some 4), none, (.mv (.k .nils))⟩, ⟨(some 5), none, (.mv (.k (.int .i64 1)))⟩]) .ret) .skip)) (.seq (.reg [⟨(some 19), none, (.ld (some 3) (.t 2))⟩, 
  ⟨(some 20), none, (.bsl 3 1 [(.int .u64 0), (.int .u64 0), (.int .i64 0)] [(0, (3, (.t 19)))])⟩, ⟨(some 6), none, (.mv (.t 20))⟩]) (.seq (.seq 
  (.reg [⟨(some 21), none, (.mv (.t 1))⟩, ⟨(some 22), none, (.lenl (.t 21))⟩, ⟨(some 23), none, (.mv (.k (.int .i64 0)))⟩]) (.block 0 (.loop (.seq 
  (.reg [⟨(some 24), none, (.bin .lss (.t 23) (.t 22))⟩]) (.seq (.cond (.t 24) .skip (.exit 0)) (.seq (.block 1 (.seq (.reg [⟨(some 25), none, (.ixa 3 (.t 21) (.t 23))⟩, 
  ⟨(some 26), none, (.ld (some 3) (.t 25))⟩, ⟨(some 8), none, (.new [(.int .u64 0), (.int .u64 0), (.int .i64 0)])⟩, ⟨none, none, (.st (some 3) (.t 8) (.t 26))⟩]) (.seq 
  (.reg [⟨(some 28), none, (.ld (some 3) (.t 2))⟩, ⟨(some 29), none, (.mv (.t 6))⟩, ⟨(some 30), none, (.ld (some 3) (.t 8))⟩, 
  ⟨(some 31), none, (.call f_buddy_Reserve [(.t 28), (.t 29), (.t 30)])⟩, ⟨(some 27), none, (.mv (.t 31))⟩, ⟨(some 32), none, (.ext 0 (.t 27))⟩, ⟨(some 33), none, (.ext 1 (.t 27))⟩, 
  ⟨(some 9), none, (.mv (.t 32))⟩, ⟨(some 10), none, (.mv (.t 33))⟩]) (.seq (.seq (.reg [⟨(some 34), none, (.mv (.t 10))⟩, 
  ⟨(some 35), none, (.eq true .i (.t 34) (.k (.int .i64 0)))⟩]) (.cond (.t 35) (.seq (.reg [⟨(some 36), none, (.mv (.t 10))⟩, ⟨(some 4), none, (.mv (.k .nils))⟩, 
  ⟨(some 5), none, (.mv (.t 36))⟩]) .ret) .skip)) (.reg [⟨(some 37), none, (.mv (.t 9))⟩, ⟨(some 6), none, (.mv (.t 37))⟩]))))) 
  (.reg [⟨(some 38), none, (.bin .add (.t 23) (.k (.int .i64 1)))⟩, ⟨(some 23), none, (.mv (.t 38))⟩]))))))) (.seq (.reg [⟨(some 39), none, (.mv (.t 6))⟩, 
  ⟨(some 4), none, (.mv (.t 39))⟩, ⟨(some 5), none, (.mv (.k (.int .i64 0)))⟩]) .ret)))))⟩
theorem c_buddy_Free : compF Try.prog ⟨some 67, some 66⟩ Try.f19 = some r_buddy_Free := by kernel_rfl
/-- tenancy/tenancyref11.Free -/
def r_r11_Free : RF :=
  ⟨43, [(.tmp 4), (.tmp 5)], (.seq (.reg [⟨(some 2), none, (.box (some 3) (.t 0))⟩, ⟨(some 4), none, (.mv (.k .nils))⟩, ⟨(some 5), none, (.mv (.k (.int .i64 0)))⟩]) (.seq (.seq 
  (.reg [⟨(some 8), none, (.ld (some 3) (.t 2))⟩, ⟨(some 9), none, (.call f_r01_Sound [(.t 8)])⟩, ⟨(some 10), none, (.un .not (.t 9))⟩]) (.cond (.t 10) (.seq 
  (.reg [⟨(some 4), none, (.mv (.k .nils))⟩, ⟨(some 5), none, (.mv (.k (.int .i64 1)))⟩]) .ret) .skip)) (.seq (.seq (.reg [⟨(some 6), none, (.mv (.k (.int .i64 0)))⟩]) (.block 0 
  (.loop (.seq (.seq (.reg [⟨(some 11), none, (.mv (.t 6))⟩, ⟨(some 12), none, (.mv (.t 1))⟩, ⟨(some 13), none, (.lenl (.t 12))⟩, ⟨(some 14), none, (.bin .lss (.t 11) (.t 13))⟩]) 
  (.cond (.t 14) .skip (.exit 0))) (.seq (.block 1 (.seq (.drw 0 [⟨⟨(some 17), none, (.ld (some 3) (.t 2))⟩, .ld, [], []⟩, ⟨⟨(some 18), none, (.mv (.t 1))⟩, .pure, [0], []⟩, 
  ⟨⟨(some 19), none, (.mv (.t 6))⟩, .pure, [0], []⟩, ⟨⟨(some 20), none, (.ixa 3 (.t 18) (.t 19))⟩, .pure, [0], []⟩, ⟨⟨(some 21), none, (.ld (some 3) (.t 20))⟩, .ld, [], []⟩, 
  ⟨⟨(some 22), none, (.call f_r01_Covers [(.t 17), (.t 21)])⟩, .eff, [], []⟩, ⟨⟨(some 23), none, (.un .not (.t 22))⟩, .pure, [], []⟩]) (.cond (.t 23) (.seq 
  (.reg [⟨(some 4), none, (.mv (.k .nils))⟩, ⟨(some 5), none, (.mv (.k (.int .i64 1)))⟩]) .ret) .skip))) (.reg [⟨(some 15), none, (.mv (.t 6))⟩, 
  ⟨(some 16), none, (.bin .add (.t 15) (.k (.int .i64 1)))⟩, ⟨(some 6), none, (.mv (.t 16))⟩])))))) (.seq (.seq (.reg [⟨(some 7), none, (.mv (.k (.int .i64 0)))⟩]) (.block 2 (.loop 
  (.seq (.seq (.reg [⟨(some 24), none, (.mv (.t 7))⟩, ⟨(some 25), none, (.mv (.t 1))⟩, ⟨(some 26), none, (.lenl (.t 25))⟩, ⟨(some 27), none, (.bin .lss (.t 24) (.t 26))⟩]) 
  (.cond (.t 27) .skip (.exit 2))) (.seq (.block 3 (.seq (.drw 0 [⟨⟨(some 30), none, (.mv (.t 1))⟩, .pure, [], []⟩, ⟨⟨(some 31), none, (.mv (.t 7))⟩, .pure, [], []⟩, 
  ⟨⟨(some 32), none, (.slc 3 (.t 30) none (some (.t 31)) none)⟩, .pure, [], []⟩, ⟨⟨(some 33), none, (.mv (.t 1))⟩, .pure, [], []⟩, ⟨⟨(some 34), none, (.mv (.t 7))⟩, .pure, [], []⟩, 
  ⟨⟨(some 35), none, (.ixa 3 (.t 33) (.t 34))⟩, .pure, [], []⟩, ⟨⟨(some 36), none, (.ld (some 3) (.t 35))⟩, .ld, [], []⟩, 
  ⟨⟨(some 37), none, (.call f_r11_met [(.t 32), (.t 36)])⟩, .eff, [], []⟩]) (.cond (.t 37) (.seq (.reg [⟨(some 4), none, (.mv (.k .nils))⟩, 
  ⟨(some 5), none, (.mv (.k (.int .i64 110)))⟩]) .ret) .skip))) (.reg [⟨(some 28), none, (.mv (.t 7))⟩, ⟨(some 29), none, (.bin .add (.t 28) (.k (.int .i64 1)))⟩, 
  ⟨(some 7), none, (.mv (.t 29))⟩])))))) (.seq (.reg [⟨(some 38), none, (.ld (some 3) (.t 2))⟩, ⟨(some 39), none, (.ld (some 3) (.t 2))⟩, 
  ⟨(some 40), none, (.bsl 3 1 [(.int .u64 0), (.int .u64 0), (.int .i64 0)] [(0, (3, (.t 39)))])⟩, ⟨(some 41), none, (.mv (.t 1))⟩, 
  ⟨(some 42), none, (.call f_r11_rest [(.t 38), (.t 40), (.t 41)])⟩, ⟨(some 4), none, (.mv (.t 42))⟩, ⟨(some 5), none, (.mv (.k (.int .i64 0)))⟩]) .ret)))))⟩
theorem c_r11_Free : compF Try.prog ⟨some 67, some 66⟩ Try.f20 = some r_r11_Free := by kernel_rfl
/-- tenancy/tenancylaw11.block -/
def r_w11_block : RF :=
  ⟨10, [(.cell (some 3) 4)], (.seq (.reg [⟨(some 4), none, (.new [(.int .u64 0), (.int .u64 0), (.int .i64 0)])⟩]) (.seq (.reg [⟨(some 5), none, (.mv (.t 0))⟩, 
  ⟨(some 6), none, (.bin .add (.k (.int .u64 2306139568115548160)) (.t 5))⟩, ⟨(some 7), none, (.bld [(.int .u64 0), (.int .u64 0)] [(0, (1, (.t 6)))])⟩, 
  ⟨(some 8), none, (.mv (.t 1))⟩, ⟨(some 9), none, (.bld [(.int .u64 0), (.int .u64 0), (.int .i64 0)] [(0, (2, (.t 7))), (2, (1, (.t 8)))])⟩, 
  ⟨none, none, (.st (some 3) (.t 4) (.t 9))⟩]) .ret))⟩
theorem c_w11_block : compF Try.prog ⟨some 67, some 66⟩ Try.f21 = some r_w11_block := by kernel_rfl
/-- tenancy/addr.Sound -/
def r_addr_Sound : RF :=
  ⟨19, [(.tmp 2)], (.seq (.reg [⟨(some 1), none, (.box (some 3) (.t 0))⟩, ⟨(some 2), none, (.mv (.k (.bool false)))⟩]) (.seq (.reg [⟨(some 6), none, (.off 0 (.t 1))⟩, 
  ⟨(some 7), none, (.ld (some 2) (.t 6))⟩, ⟨(some 8), none, (.off 2 (.t 1))⟩, ⟨(some 9), none, (.ld none (.t 8))⟩, ⟨(some 10), none, (.call f_addr_Clip [(.t 7), (.t 9)])⟩, 
  ⟨(some 5), none, (.mv (.t 10))⟩, ⟨(some 11), none, (.ext 0 (.t 5))⟩, ⟨(some 12), none, (.ext 1 (.t 5))⟩, ⟨(some 3), none, (.new [(.int .u64 0), (.int .u64 0), (.int .i64 0)])⟩, 
  ⟨none, none, (.st (some 3) (.t 3) (.t 11))⟩, ⟨(some 4), none, (.mv (.t 12))⟩]) (.seq (.reg [⟨(some 13), none, (.mv (.t 4))⟩, ⟨(some 14), none, (.mv (.t 13))⟩, 
  ⟨(some 15), (some (14, true)), (.ld (some 3) (.t 3))⟩, ⟨(some 16), (some (14, true)), (.ld (some 3) (.t 1))⟩, 
  ⟨(some 17), (some (14, true)), (.eq false (.st (.sub 0 2 (.st (.one 0 .i (.one 1 .i .nil))) (.one 2 .i .nil))) (.t 15) (.t 16))⟩, 
  ⟨(some 18), none, (.pick (.t 14) (.t 17) (.k (.bool false)))⟩, ⟨(some 2), none, (.mv (.t 18))⟩]) .ret)))⟩
theorem c_addr_Sound : compF Try.prog ⟨some 67, some 66⟩ Try.f22 = some r_addr_Sound := by kernel_rfl
/-- tenancy/addr.Covers -/
def r_addr_Covers : RF :=
  ⟨22, [(.tmp 4)], (.seq (.reg [⟨(some 2), none, (.box (some 3) (.t 0))⟩, ⟨(some 3), none, (.box (some 3) (.t 1))⟩, ⟨(some 4), none, (.mv (.k (.bool false)))⟩]) (.seq 
  (.reg [⟨(some 6), none, (.ld (some 3) (.t 3))⟩, ⟨(some 7), none, (.call f_addr_Span [(.t 6)])⟩, 
  ⟨(some 5), none, (.new [(.int .u64 0), (.int .u64 0), (.int .u64 0), (.int .u64 0)])⟩, ⟨none, none, (.st (some 4) (.t 5) (.t 7))⟩]) (.seq 
  (.reg [⟨(some 8), none, (.ld (some 3) (.t 3))⟩, ⟨(some 9), none, (.call f_addr_Sound [(.t 8)])⟩, ⟨(some 10), none, (.mv (.t 9))⟩, 
  ⟨(some 11), (some (10, true)), (.ld (some 3) (.t 2))⟩, ⟨(some 12), (some (10, true)), (.off 0 (.t 5))⟩, ⟨(some 13), (some (10, true)), (.ld (some 2) (.t 12))⟩, 
  ⟨(some 14), (some (10, true)), (.call f_addr_Has [(.t 11), (.t 13)])⟩, ⟨(some 15), none, (.pick (.t 10) (.t 14) (.k (.bool false)))⟩, ⟨(some 16), none, (.mv (.t 15))⟩, 
  ⟨(some 17), (some (16, true)), (.ld (some 3) (.t 2))⟩, ⟨(some 18), (some (16, true)), (.off 2 (.t 5))⟩, ⟨(some 19), (some (16, true)), (.ld (some 2) (.t 18))⟩, 
  ⟨(some 20), (some (16, true)), (.call f_addr_Has [(.t 17), (.t 19)])⟩, ⟨(some 21), none, (.pick (.t 16) (.t 20) (.k (.bool false)))⟩, ⟨(some 4), none, (.mv (.t 21))⟩]) .ret)))⟩
theorem c_addr_Covers : compF Try.prog ⟨some 67, some 66⟩ Try.f23 = some r_addr_Covers := by kernel_rfl
/-- tenancy/tenancylaw11.apart -/
def r_w11_apart : RF :=
  ⟨106, [(.tmp 6)], (.seq (.reg [⟨(some 3), none, (.box (some 3) (.t 0))⟩, ⟨(some 6), none, (.mv (.k (.bool false)))⟩]) (.seq (.reg [⟨(some 17), none, (.mv (.t 1))⟩, 
  ⟨(some 18), none, (.lenl (.t 17))⟩, ⟨(some 19), none, (.mv (.t 2))⟩, ⟨(some 20), none, (.lenl (.t 19))⟩, ⟨(some 21), none, (.bin .add (.t 18) (.t 20))⟩, 
  ⟨(some 22), none, (.mks 3 24 [(.int .u64 0), (.int .u64 0), (.int .i64 0)] (.k (.int .i64 0)) (.t 21))⟩, ⟨(some 7), none, (.mv (.t 22))⟩]) (.seq 
  (.reg [⟨(some 23), none, (.mv (.t 7))⟩, ⟨(some 24), none, (.mv (.t 1))⟩, ⟨(some 25), none, (.app 3 24 (.t 23) (.t 24))⟩, ⟨(some 7), none, (.mv (.t 25))⟩]) (.seq 
  (.reg [⟨(some 26), none, (.mv (.t 7))⟩, ⟨(some 27), none, (.mv (.t 2))⟩, ⟨(some 28), none, (.app 3 24 (.t 26) (.t 27))⟩, ⟨(some 7), none, (.mv (.t 28))⟩]) (.seq 
  (.reg [⟨(some 29), none, (.bld [(.int .u64 0), (.int .u64 0)] [])⟩, ⟨(some 8), none, (.new [(.int .u64 0), (.int .u64 0)])⟩, ⟨none, none, (.st (some 2) (.t 8) (.t 29))⟩]) (.seq 
  (.seq (.reg [⟨(some 9), none, (.mv (.k (.int .i64 0)))⟩]) (.block 0 (.loop (.seq (.seq (.reg [⟨(some 30), none, (.mv (.t 9))⟩, ⟨(some 31), none, (.mv (.t 7))⟩, 
  ⟨(some 32), none, (.lenl (.t 31))⟩, ⟨(some 33), none, (.bin .lss (.t 30) (.t 32))⟩]) (.cond (.t 33) .skip (.exit 0))) (.seq (.block 1 (.seq (.seq 
  (.drw 0 [⟨⟨(some 36), none, (.ld (some 3) (.t 3))⟩, .ld, [], []⟩, ⟨⟨(some 37), none, (.mv (.t 7))⟩, .pure, [0], []⟩, ⟨⟨(some 38), none, (.mv (.t 9))⟩, .pure, [0], []⟩, 
  ⟨⟨(some 39), none, (.ixa 3 (.t 37) (.t 38))⟩, .pure, [0], []⟩, ⟨⟨(some 40), none, (.ld (some 3) (.t 39))⟩, .ld, [], []⟩, 
  ⟨⟨(some 41), none, (.call f_addr_Covers [(.t 36), (.t 40)])⟩, .eff, [], []⟩, ⟨⟨(some 42), none, (.un .not (.t 41))⟩, .pure, [], []⟩]) (.cond (.t 42) (.seq 
  (.reg [⟨(some 6), none, (.mv (.k (.bool false)))⟩]) .ret) .skip)) (.seq (.seq (.reg [⟨(some 10), none, (.mv (.k (.int .i64 0)))⟩]) (.block 2 (.loop (.seq (.seq 
  (.reg [⟨(some 43), none, (.mv (.t 10))⟩, ⟨(some 44), none, (.mv (.t 9))⟩, ⟨(some 45), none, (.bin .lss (.t 43) (.t 44))⟩]) (.cond (.t 45) .skip (.exit 2))) (.seq (.block 3 (.seq 
  (.drw 0 [⟨⟨(some 48), none, (.mv (.t 7))⟩, .pure, [], []⟩, ⟨⟨(some 49), none, (.mv (.t 9))⟩, .pure, [], []⟩, ⟨⟨(some 50), none, (.ixa 3 (.t 48) (.t 49))⟩, .pure, [], []⟩, 
  ⟨⟨(some 51), none, (.ld (some 3) (.t 50))⟩, .ld, [], []⟩, ⟨⟨(some 52), none, (.mv (.t 7))⟩, .pure, [3], []⟩, ⟨⟨(some 53), none, (.mv (.t 10))⟩, .pure, [3], []⟩, 
  ⟨⟨(some 54), none, (.ixa 3 (.t 52) (.t 53))⟩, .pure, [3], []⟩, ⟨⟨(some 55), none, (.ld (some 3) (.t 54))⟩, .ld, [], []⟩, 
  ⟨⟨(some 56), none, (.call f_addr_Meets [(.t 51), (.t 55)])⟩, .eff, [], []⟩]) (.cond (.t 56) (.seq (.reg [⟨(some 6), none, (.mv (.k (.bool false)))⟩]) .ret) .skip))) 
  (.reg [⟨(some 46), none, (.mv (.t 10))⟩, ⟨(some 47), none, (.bin .add (.t 46) (.k (.int .i64 1)))⟩, ⟨(some 10), none, (.mv (.t 47))⟩])))))) (.seq 
  (.reg [⟨(some 57), none, (.mv (.t 7))⟩, ⟨(some 58), none, (.mv (.t 9))⟩, ⟨(some 59), none, (.ixa 3 (.t 57) (.t 58))⟩, ⟨(some 60), none, (.ld (some 3) (.t 59))⟩, 
  ⟨(some 61), none, (.call f_addr_Span [(.t 60)])⟩, ⟨(some 11), none, (.new [(.int .u64 0), (.int .u64 0), (.int .u64 0), (.int .u64 0)])⟩, 
  ⟨none, none, (.st (some 4) (.t 11) (.t 61))⟩]) (.seq (.reg [⟨(some 63), none, (.off 2 (.t 11))⟩, ⟨(some 64), none, (.ld (some 2) (.t 63))⟩, ⟨(some 65), none, (.off 0 (.t 11))⟩, 
  ⟨(some 66), none, (.ld (some 2) (.t 65))⟩, ⟨(some 67), none, (.call f_addr_Sub [(.t 64), (.t 66)])⟩, ⟨(some 62), none, (.mv (.t 67))⟩, ⟨(some 68), none, (.ext 0 (.t 62))⟩, 
  ⟨(some 69), none, (.ext 1 (.t 62))⟩, ⟨(some 12), none, (.new [(.int .u64 0), (.int .u64 0)])⟩, ⟨none, none, (.st (some 2) (.t 12) (.t 68))⟩, ⟨(some 13), none, (.mv (.t 69))⟩]) 
  (.seq (.reg [⟨(some 71), none, (.ld (some 2) (.t 12))⟩, ⟨(some 72), none, (.bld [(.int .u64 0), (.int .u64 0)] [(1, (1, (.k (.int .u64 1))))])⟩, 
  ⟨(some 73), none, (.call f_addr_Add [(.t 71), (.t 72)])⟩, ⟨(some 70), none, (.mv (.t 73))⟩, ⟨(some 74), none, (.ext 0 (.t 70))⟩, ⟨(some 75), none, (.ext 1 (.t 70))⟩, 
  ⟨none, none, (.st (some 2) (.t 12) (.t 74))⟩]) (.reg [⟨(some 77), none, (.ld (some 2) (.t 8))⟩, ⟨(some 78), none, (.ld (some 2) (.t 12))⟩, 
  ⟨(some 79), none, (.call f_addr_Add [(.t 77), (.t 78)])⟩, ⟨(some 76), none, (.mv (.t 79))⟩, ⟨(some 80), none, (.ext 0 (.t 76))⟩, ⟨(some 81), none, (.ext 1 (.t 76))⟩, 
  ⟨none, none, (.st (some 2) (.t 8) (.t 80))⟩]))))))) (.reg [⟨(some 34), none, (.mv (.t 9))⟩, ⟨(some 35), none, (.bin .add (.t 34) (.k (.int .i64 1)))⟩, 
  ⟨(some 9), none, (.mv (.t 35))⟩])))))) (.seq (.reg [⟨(some 82), none, (.ld (some 3) (.t 3))⟩, ⟨(some 83), none, (.call f_addr_Span [(.t 82)])⟩, 
  ⟨(some 14), none, (.new [(.int .u64 0), (.int .u64 0), (.int .u64 0), (.int .u64 0)])⟩, ⟨none, none, (.st (some 4) (.t 14) (.t 83))⟩]) (.seq 
  (.reg [⟨(some 85), none, (.off 2 (.t 14))⟩, ⟨(some 86), none, (.ld (some 2) (.t 85))⟩, ⟨(some 87), none, (.off 0 (.t 14))⟩, ⟨(some 88), none, (.ld (some 2) (.t 87))⟩, 
  ⟨(some 89), none, (.call f_addr_Sub [(.t 86), (.t 88)])⟩, ⟨(some 84), none, (.mv (.t 89))⟩, ⟨(some 90), none, (.ext 0 (.t 84))⟩, ⟨(some 91), none, (.ext 1 (.t 84))⟩, 
  ⟨(some 15), none, (.new [(.int .u64 0), (.int .u64 0)])⟩, ⟨none, none, (.st (some 2) (.t 15) (.t 90))⟩, ⟨(some 16), none, (.mv (.t 91))⟩]) (.seq 
  (.reg [⟨(some 93), none, (.ld (some 2) (.t 15))⟩, ⟨(some 94), none, (.bld [(.int .u64 0), (.int .u64 0)] [(1, (1, (.k (.int .u64 1))))])⟩, 
  ⟨(some 95), none, (.call f_addr_Add [(.t 93), (.t 94)])⟩, ⟨(some 92), none, (.mv (.t 95))⟩, ⟨(some 96), none, (.ext 0 (.t 92))⟩, ⟨(some 97), none, (.ext 1 (.t 92))⟩, 
  ⟨none, none, (.st (some 2) (.t 15) (.t 96))⟩]) (.seq (.reg [⟨(some 98), none, (.ld (some 2) (.t 8))⟩, ⟨(some 99), none, (.ld (some 2) (.t 15))⟩, 
  ⟨(some 100), none, (.eq false (.st (.one 0 .i (.one 1 .i .nil))) (.t 98) (.t 99))⟩, ⟨(some 101), none, (.mv (.t 100))⟩, ⟨(some 102), (some (101, true)), (.ld (some 3) (.t 3))⟩, 
  ⟨(some 103), (some (101, true)), (.mv (.t 1))⟩, ⟨(some 104), (some (101, true)), (.call f_buddy_Sound [(.t 102), (.t 103)])⟩, 
  ⟨(some 105), none, (.pick (.t 101) (.t 104) (.k (.bool false)))⟩, ⟨(some 6), none, (.mv (.t 105))⟩]) .ret))))))))))⟩
theorem c_w11_apart : compF Try.prog ⟨some 67, some 66⟩ Try.f24 = some r_w11_apart := by kernel_rfl
/-- tenancy/addr.Span -/
def r_addr_Span : RF :=
  ⟨28, [(.cell (some 4) 2)], (.seq (.reg [⟨(some 1), none, (.box (some 3) (.t 0))⟩, ⟨(some 2), none, (.new [(.int .u64 0), (.int .u64 0), (.int .u64 0), (.int .u64 0)])⟩]) (.seq 
  (.seq (.reg [⟨(some 4), none, (.ld (some 3) (.t 1))⟩, ⟨(some 5), none, (.call f_addr_Sound [(.t 4)])⟩, ⟨(some 6), none, (.un .not (.t 5))⟩]) (.cond (.t 6) (.seq 
  (.reg [⟨(some 7), none, (.bld [(.int .u64 0), (.int .u64 0), (.int .u64 0), (.int .u64 0)] [])⟩, ⟨none, none, (.st (some 4) (.t 2) (.t 7))⟩]) .ret) .skip)) (.seq 
  (.reg [⟨(some 8), none, (.bld [(.int .u64 0), (.int .u64 0)] [(0, (1, (.k (.int .u64 18446744073709551615)))), (1, (1, (.k (.int .u64 18446744073709551615))))])⟩, 
  ⟨(some 9), none, (.off 2 (.t 1))⟩, ⟨(some 10), none, (.ld none (.t 9))⟩, ⟨(some 11), none, (.call f_addr_Down [(.t 8), (.t 10)])⟩, 
  ⟨(some 3), none, (.new [(.int .u64 0), (.int .u64 0)])⟩, ⟨none, none, (.st (some 2) (.t 3) (.t 11))⟩]) (.seq (.reg [⟨(some 12), none, (.off 0 (.t 1))⟩, 
  ⟨(some 13), none, (.ld (some 2) (.t 12))⟩, ⟨(some 14), none, (.off 0 (.t 1))⟩, ⟨(some 15), none, (.off 0 (.t 14))⟩, ⟨(some 16), none, (.ld none (.t 15))⟩, 
  ⟨(some 17), none, (.off 0 (.t 3))⟩, ⟨(some 18), none, (.ld none (.t 17))⟩, ⟨(some 19), none, (.bin .or (.t 16) (.t 18))⟩, ⟨(some 20), none, (.off 0 (.t 1))⟩, 
  ⟨(some 21), none, (.off 1 (.t 20))⟩, ⟨(some 22), none, (.ld none (.t 21))⟩, ⟨(some 23), none, (.off 1 (.t 3))⟩, ⟨(some 24), none, (.ld none (.t 23))⟩, 
  ⟨(some 25), none, (.bin .or (.t 22) (.t 24))⟩, ⟨(some 26), none, (.bld [(.int .u64 0), (.int .u64 0)] [(0, (1, (.t 19))), (1, (1, (.t 25)))])⟩, 
  ⟨(some 27), none, (.bld [(.int .u64 0), (.int .u64 0), (.int .u64 0), (.int .u64 0)] [(0, (2, (.t 13))), (2, (2, (.t 26)))])⟩, 
  ⟨none, none, (.st (some 4) (.t 2) (.t 27))⟩]) .ret))))⟩
theorem c_addr_Span : compF Try.prog ⟨some 67, some 66⟩ Try.f25 = some r_addr_Span := by kernel_rfl
/-- tenancy/buddy.buddyOf -/
def r_buddy_buddyOf : RF :=
  ⟨33, [(.cell (some 3) 2), (.tmp 3)], (.seq (.reg [⟨(some 1), none, (.box (some 3) (.t 0))⟩, ⟨(some 2), none, (.new [(.int .u64 0), (.int .u64 0), (.int .i64 0)])⟩, 
  ⟨(some 3), none, (.mv (.k (.bool false)))⟩]) (.seq (.seq (.reg [⟨(some 9), none, (.off 2 (.t 1))⟩, ⟨(some 10), none, (.ld none (.t 9))⟩, 
  ⟨(some 11), none, (.eq false .i (.t 10) (.k (.int .i64 0)))⟩]) (.cond (.t 11) (.seq (.reg [⟨(some 12), none, (.bld [(.int .u64 0), (.int .u64 0), (.int .i64 0)] [])⟩, 
  ⟨none, none, (.st (some 3) (.t 2) (.t 12))⟩, ⟨(some 3), none, (.mv (.k (.bool false)))⟩]) .ret) .skip)) (.seq (.reg [⟨(some 14), none, (.off 0 (.t 1))⟩, 
  ⟨(some 15), none, (.ld (some 2) (.t 14))⟩, ⟨(some 16), none, (.off 2 (.t 1))⟩, ⟨(some 17), none, (.ld none (.t 16))⟩, ⟨(some 18), none, (.bin .sub (.t 17) (.k (.int .i64 1)))⟩, 
  ⟨(some 19), none, (.call f_addr_Clip [(.t 15), (.t 18)])⟩, ⟨(some 13), none, (.mv (.t 19))⟩, ⟨(some 20), none, (.ext 0 (.t 13))⟩, ⟨(some 21), none, (.ext 1 (.t 13))⟩, 
  ⟨(some 4), none, (.new [(.int .u64 0), (.int .u64 0), (.int .i64 0)])⟩, ⟨none, none, (.st (some 3) (.t 4) (.t 20))⟩, ⟨(some 5), none, (.mv (.t 21))⟩]) (.seq 
  (.reg [⟨(some 23), none, (.ld (some 3) (.t 4))⟩, ⟨(some 24), none, (.call f_addr_Halves [(.t 23)])⟩, ⟨(some 22), none, (.mv (.t 24))⟩, ⟨(some 25), none, (.ext 0 (.t 22))⟩, 
  ⟨(some 26), none, (.ext 1 (.t 22))⟩, ⟨(some 27), none, (.ext 2 (.t 22))⟩, ⟨(some 6), none, (.new [(.int .u64 0), (.int .u64 0), (.int .i64 0)])⟩, 
  ⟨(some 7), none, (.new [(.int .u64 0), (.int .u64 0), (.int .i64 0)])⟩, ⟨none, none, (.st (some 3) (.t 6) (.t 25))⟩, ⟨none, none, (.st (some 3) (.t 7) (.t 26))⟩, 
  ⟨(some 8), none, (.mv (.t 27))⟩]) (.seq (.seq (.reg [⟨(some 28), none, (.ld (some 3) (.t 1))⟩, ⟨(some 29), none, (.ld (some 3) (.t 6))⟩, 
  ⟨(some 30), none, (.eq false (.st (.sub 0 2 (.st (.one 0 .i (.one 1 .i .nil))) (.one 2 .i .nil))) (.t 28) (.t 29))⟩]) (.cond (.t 30) (.seq 
  (.reg [⟨(some 31), none, (.ld (some 3) (.t 7))⟩, ⟨none, none, (.st (some 3) (.t 2) (.t 31))⟩, ⟨(some 3), none, (.mv (.k (.bool true)))⟩]) .ret) .skip)) (.seq 
  (.reg [⟨(some 32), none, (.ld (some 3) (.t 6))⟩, ⟨none, none, (.st (some 3) (.t 2) (.t 32))⟩, ⟨(some 3), none, (.mv (.k (.bool true)))⟩]) .ret))))))⟩
theorem c_buddy_buddyOf : compF Try.prog ⟨some 67, some 66⟩ Try.f26 = some r_buddy_buddyOf := by kernel_rfl
/-- tenancy/addr.Cmp -/
def r_addr_Cmp : RF :=
  ⟨17, [(.tmp 4)], (.seq (.reg [⟨(some 2), none, (.box (some 2) (.t 0))⟩, ⟨(some 3), none, (.box (some 2) (.t 1))⟩, ⟨(some 4), none, (.mv (.k (.int .i64 0)))⟩]) (.seq 
  (.drw 1 [⟨⟨(some 5), none, (.off 0 (.t 2))⟩, .pure, [], []⟩, ⟨⟨(some 6), none, (.ld none (.t 5))⟩, .ld, [], []⟩, ⟨⟨(some 7), none, (.off 0 (.t 3))⟩, .pure, [1], []⟩, 
  ⟨⟨(some 8), none, (.ld none (.t 7))⟩, .ld, [], []⟩, ⟨⟨(some 9), none, (.call f_cmp_Compare_uint64 [(.t 6), (.t 8)])⟩, .eff, [], [0]⟩, 
  ⟨⟨(some 10), none, (.off 1 (.t 2))⟩, .pure, [1, 3], []⟩, ⟨⟨(some 11), none, (.ld none (.t 10))⟩, .ld, [4], []⟩, ⟨⟨(some 12), none, (.off 1 (.t 3))⟩, .pure, [1, 3, 6], []⟩, 
  ⟨⟨(some 13), none, (.ld none (.t 12))⟩, .ld, [4], []⟩, ⟨⟨(some 14), none, (.call f_cmp_Compare_uint64 [(.t 11), (.t 13)])⟩, .eff, [], [0]⟩, 
  ⟨⟨(some 15), none, (.bsl 1 2 [(.int .i64 0)] [(0, (1, (.t 9))), (1, (1, (.t 14)))])⟩, (.new 0), [], []⟩, ⟨⟨(some 16), none, (.call f_cmp_Or_int [(.t 15)])⟩, .eff, [], []⟩, 
  ⟨⟨(some 4), none, (.mv (.t 16))⟩, .pure, [], []⟩]) .ret))⟩
theorem c_addr_Cmp : compF Try.prog ⟨some 67, some 66⟩ Try.f27 = some r_addr_Cmp := by kernel_rfl
/-- tenancy/tenancyref01.Sound -/
def r_r01_Sound : RF :=
  ⟨19, [(.tmp 2)], (.seq (.reg [⟨(some 1), none, (.box (some 3) (.t 0))⟩, ⟨(some 2), none, (.mv (.k (.bool false)))⟩]) (.seq (.reg [⟨(some 6), none, (.off 0 (.t 1))⟩, 
  ⟨(some 7), none, (.ld (some 2) (.t 6))⟩, ⟨(some 8), none, (.off 2 (.t 1))⟩, ⟨(some 9), none, (.ld none (.t 8))⟩, ⟨(some 10), none, (.call f_r01_Clip [(.t 7), (.t 9)])⟩, 
  ⟨(some 5), none, (.mv (.t 10))⟩, ⟨(some 11), none, (.ext 0 (.t 5))⟩, ⟨(some 12), none, (.ext 1 (.t 5))⟩, ⟨(some 3), none, (.new [(.int .u64 0), (.int .u64 0), (.int .i64 0)])⟩, 
  ⟨none, none, (.st (some 3) (.t 3) (.t 11))⟩, ⟨(some 4), none, (.mv (.t 12))⟩]) (.seq (.reg [⟨(some 13), none, (.mv (.t 4))⟩, ⟨(some 14), none, (.mv (.t 13))⟩, 
  ⟨(some 15), (some (14, true)), (.ld (some 3) (.t 3))⟩, ⟨(some 16), (some (14, true)), (.ld (some 3) (.t 1))⟩, 
  ⟨(some 17), (some (14, true)), (.eq false (.st (.sub 0 2 (.st (.one 0 .i (.one 1 .i .nil))) (.one 2 .i .nil))) (.t 15) (.t 16))⟩, 
  ⟨(some 18), none, (.pick (.t 14) (.t 17) (.k (.bool false)))⟩, ⟨(some 2), none, (.mv (.t 18))⟩]) .ret)))⟩
theorem c_r01_Sound : compF Try.prog ⟨some 67, some 66⟩ Try.f28 = some r_r01_Sound := by kernel_rfl
/-- tenancy/tenancyref01.Covers -/
def r_r01_Covers : RF :=
  ⟨20, [(.tmp 4)], (.seq (.reg [⟨(some 2), none, (.box (some 3) (.t 0))⟩, ⟨(some 3), none, (.box (some 3) (.t 1))⟩, ⟨(some 4), none, (.mv (.k (.bool false)))⟩]) (.seq 
  (.reg [⟨(some 5), none, (.ld (some 3) (.t 3))⟩, ⟨(some 6), none, (.call f_r01_Sound [(.t 5)])⟩, ⟨(some 7), none, (.mv (.t 6))⟩, ⟨(some 8), (some (7, true)), (.off 2 (.t 3))⟩, 
  ⟨(some 9), (some (7, true)), (.ld none (.t 8))⟩, ⟨(some 10), (some (7, true)), (.off 2 (.t 2))⟩, ⟨(some 11), (some (7, true)), (.ld none (.t 10))⟩, 
  ⟨(some 12), (some (7, true)), (.bin .geq (.t 9) (.t 11))⟩, ⟨(some 13), none, (.pick (.t 7) (.t 12) (.k (.bool false)))⟩, ⟨(some 14), none, (.mv (.t 13))⟩, 
  ⟨(some 15), (some (14, true)), (.ld (some 3) (.t 2))⟩, ⟨(some 16), (some (14, true)), (.off 0 (.t 3))⟩, ⟨(some 17), (some (14, true)), (.ld (some 2) (.t 16))⟩, 
  ⟨(some 18), (some (14, true)), (.call f_r01_Has [(.t 15), (.t 17)])⟩, ⟨(some 19), none, (.pick (.t 14) (.t 18) (.k (.bool false)))⟩, ⟨(some 4), none, (.mv (.t 19))⟩]) .ret))⟩
theorem c_r01_Covers : compF Try.prog ⟨some 67, some 66⟩ Try.f29 = some r_r01_Covers := by kernel_rfl
/-- tenancy/tenancyref01.Cmp -/
def r_r01_Cmp : RF :=
  ⟨24, [(.tmp 4)], (.seq (.reg [⟨(some 2), none, (.box (some 2) (.t 0))⟩, ⟨(some 3), none, (.box (some 2) (.t 1))⟩, ⟨(some 4), none, (.mv (.k (.int .i64 0)))⟩]) (.seq (.seq 
  (.reg [⟨(some 5), none, (.mv (.k (.int .i64 0)))⟩]) (.block 0 (.loop (.seq (.seq (.reg [⟨(some 6), none, (.mv (.t 5))⟩, ⟨(some 7), none, (.bin .lss (.t 6) (.k (.int .i64 128)))⟩]) 
  (.cond (.t 7) .skip (.exit 0))) (.seq (.block 1 (.seq (.seq (.drw 0 [⟨⟨(some 10), none, (.ld (some 2) (.t 2))⟩, .ld, [], []⟩, ⟨⟨(some 11), none, (.mv (.t 5))⟩, .pure, [0], []⟩, 
  ⟨⟨(some 12), none, (.call f_r01_bit [(.t 10), (.t 11)])⟩, .eff, [], []⟩, ⟨⟨(some 13), none, (.ld (some 2) (.t 3))⟩, .ld, [2], []⟩, 
  ⟨⟨(some 14), none, (.mv (.t 5))⟩, .pure, [0, 3], []⟩, ⟨⟨(some 15), none, (.call f_r01_bit [(.t 13), (.t 14)])⟩, .eff, [], []⟩, 
  ⟨⟨(some 16), none, (.bin .lss (.t 12) (.t 15))⟩, .pure, [], []⟩]) (.cond (.t 16) (.seq (.reg [⟨(some 4), none, (.mv (.k (.int .i64 (-1))))⟩]) .ret) .skip)) (.seq 
  (.drw 0 [⟨⟨(some 17), none, (.ld (some 2) (.t 2))⟩, .ld, [], []⟩, ⟨⟨(some 18), none, (.mv (.t 5))⟩, .pure, [0], []⟩, 
  ⟨⟨(some 19), none, (.call f_r01_bit [(.t 17), (.t 18)])⟩, .eff, [], []⟩, ⟨⟨(some 20), none, (.ld (some 2) (.t 3))⟩, .ld, [2], []⟩, 
  ⟨⟨(some 21), none, (.mv (.t 5))⟩, .pure, [0, 3], []⟩, ⟨⟨(some 22), none, (.call f_r01_bit [(.t 20), (.t 21)])⟩, .eff, [], []⟩, 
  ⟨⟨(some 23), none, (.bin .gtr (.t 19) (.t 22))⟩, .pure, [], []⟩]) (.cond (.t 23) (.seq (.reg [⟨(some 4), none, (.mv (.k (.int .i64 1)))⟩]) .ret) .skip)))) 
  (.reg [⟨(some 8), none, (.mv (.t 5))⟩, ⟨(some 9), none, (.bin .add (.t 8) (.k (.int .i64 1)))⟩, ⟨(some 5), none, (.mv (.t 9))⟩])))))) (.seq 
  (.reg [⟨(some 4), none, (.mv (.k (.int .i64 0)))⟩]) .ret)))⟩
theorem c_r01_Cmp : compF Try.prog ⟨some 67, some 66⟩ Try.f30 = some r_r01_Cmp := by kernel_rfl
/-- tenancy/tenancyref01.Meets -/
def r_r01_Meets : RF :=
  ⟨13, [(.tmp 4)], (.seq (.reg [⟨(some 2), none, (.box (some 3) (.t 0))⟩, ⟨(some 3), none, (.box (some 3) (.t 1))⟩, ⟨(some 4), none, (.mv (.k (.bool false)))⟩]) (.seq 
  (.reg [⟨(some 5), none, (.ld (some 3) (.t 2))⟩, ⟨(some 6), none, (.ld (some 3) (.t 3))⟩, ⟨(some 7), none, (.call f_r01_Covers [(.t 5), (.t 6)])⟩, ⟨(some 8), none, (.mv (.t 7))⟩, 
  ⟨(some 9), (some (8, false)), (.ld (some 3) (.t 3))⟩, ⟨(some 10), (some (8, false)), (.ld (some 3) (.t 2))⟩, 
  ⟨(some 11), (some (8, false)), (.call f_r01_Covers [(.t 9), (.t 10)])⟩, ⟨(some 12), none, (.pick (.t 8) (.k (.bool true)) (.t 11))⟩, ⟨(some 4), none, (.mv (.t 12))⟩]) .ret))⟩
theorem c_r01_Meets : compF Try.prog ⟨some 67, some 66⟩ Try.f31 = some r_r01_Meets := by kernel_rfl
/-- tenancy/tenancyref11.pair -/
def r_r11_pair : RF :=
  ⟨45, [(.tmp 4)], (.seq (.reg [⟨(some 2), none, (.box (some 3) (.t 0))⟩, ⟨(some 3), none, (.box (some 3) (.t 1))⟩, ⟨(some 4), none, (.mv (.k (.bool false)))⟩]) (.seq (.seq 
  (.reg [⟨(some 9), none, (.off 2 (.t 2))⟩, ⟨(some 10), none, (.ld none (.t 9))⟩, ⟨(some 11), none, (.off 2 (.t 3))⟩, ⟨(some 12), none, (.ld none (.t 11))⟩, 
  ⟨(some 13), none, (.eq true .i (.t 10) (.t 12))⟩, ⟨(some 14), none, (.mv (.t 13))⟩, ⟨(some 15), (some (14, false)), (.off 2 (.t 2))⟩, 
  ⟨(some 16), (some (14, false)), (.ld none (.t 15))⟩, ⟨(some 17), (some (14, false)), (.eq false .i (.t 16) (.k (.int .i64 0)))⟩, 
  ⟨(some 18), none, (.pick (.t 14) (.k (.bool true)) (.t 17))⟩]) (.cond (.t 18) (.seq (.reg [⟨(some 4), none, (.mv (.k (.bool false)))⟩]) .ret) .skip)) (.seq 
  (.reg [⟨(some 20), none, (.off 0 (.t 2))⟩, ⟨(some 21), none, (.ld (some 2) (.t 20))⟩, ⟨(some 22), none, (.off 2 (.t 2))⟩, ⟨(some 23), none, (.ld none (.t 22))⟩, 
  ⟨(some 24), none, (.bin .sub (.t 23) (.k (.int .i64 1)))⟩, ⟨(some 25), none, (.call f_r01_Clip [(.t 21), (.t 24)])⟩, ⟨(some 19), none, (.mv (.t 25))⟩, 
  ⟨(some 26), none, (.ext 0 (.t 19))⟩, ⟨(some 27), none, (.ext 1 (.t 19))⟩, ⟨(some 5), none, (.new [(.int .u64 0), (.int .u64 0), (.int .i64 0)])⟩, 
  ⟨none, none, (.st (some 3) (.t 5) (.t 26))⟩, ⟨(some 6), none, (.mv (.t 27))⟩]) (.seq (.reg [⟨(some 29), none, (.off 0 (.t 3))⟩, ⟨(some 30), none, (.ld (some 2) (.t 29))⟩, 
  ⟨(some 31), none, (.off 2 (.t 3))⟩, ⟨(some 32), none, (.ld none (.t 31))⟩, ⟨(some 33), none, (.bin .sub (.t 32) (.k (.int .i64 1)))⟩, 
  ⟨(some 34), none, (.call f_r01_Clip [(.t 30), (.t 33)])⟩, ⟨(some 28), none, (.mv (.t 34))⟩, ⟨(some 35), none, (.ext 0 (.t 28))⟩, ⟨(some 36), none, (.ext 1 (.t 28))⟩, 
  ⟨(some 7), none, (.new [(.int .u64 0), (.int .u64 0), (.int .i64 0)])⟩, ⟨none, none, (.st (some 3) (.t 7) (.t 35))⟩, ⟨(some 8), none, (.mv (.t 36))⟩]) (.seq 
  (.reg [⟨(some 37), none, (.ld (some 3) (.t 5))⟩, ⟨(some 38), none, (.ld (some 3) (.t 7))⟩, 
  ⟨(some 39), none, (.eq false (.st (.sub 0 2 (.st (.one 0 .i (.one 1 .i .nil))) (.one 2 .i .nil))) (.t 37) (.t 38))⟩, ⟨(some 40), none, (.mv (.t 39))⟩, 
  ⟨(some 41), (some (40, true)), (.ld (some 3) (.t 2))⟩, ⟨(some 42), (some (40, true)), (.ld (some 3) (.t 3))⟩, 
  ⟨(some 43), (some (40, true)), (.eq true (.st (.sub 0 2 (.st (.one 0 .i (.one 1 .i .nil))) (.one 2 .i .nil))) (.t 41) (.t 42))⟩, 
  ⟨(some 44), none, (.pick (.t 40) (.t 43) (.k (.bool false)))⟩, ⟨(some 4), none, (.mv (.t 44))⟩]) .ret)))))⟩
theorem c_r11_pair : compF Try.prog ⟨some 67, some 66⟩ Try.f32 = some r_r11_pair := by kernel_rfl
/-- slices.ContainsFunc[[]tenancy/api.Prefix,tenancy/api.Prefix] -/
def r_slices_ContainsFunc_Prefix : RF :=
  ⟨9, [(.tmp 4)], (.seq (.reg [⟨(some 4), none, (.mv (.k (.bool false)))⟩]) (.seq (.reg [⟨(some 5), none, (.mv (.t 0))⟩, ⟨(some 6), none, (.mv (.t 1))⟩, 
  ⟨(some 7), none, (.call f_slices_IndexFunc_Prefix [(.t 5), (.t 6)])⟩, ⟨(some 8), none, (.bin .geq (.t 7) (.k (.int .i64 0)))⟩, ⟨(some 4), none, (.mv (.t 8))⟩]) .ret))⟩
theorem c_slices_ContainsFunc_Prefix : compF Try.prog ⟨some 67, some 66⟩ Try.f33 = some r_slices_ContainsFunc_Prefix := by kernel_rfl
/-- tenancy/buddy.Fits$1 -/
def r_buddy_Fits_1 : RF :=
  ⟨8, [(.tmp 3)], (.seq (.reg [⟨(some 2), none, (.box (some 3) (.t 0))⟩, ⟨(some 3), none, (.mv (.k (.bool false)))⟩]) (.seq (.reg [⟨(some 4), none, (.off 2 (.t 2))⟩, 
  ⟨(some 5), none, (.ld none (.t 4))⟩, ⟨(some 6), none, (.ld none (.t 1))⟩, ⟨(some 7), none, (.bin .leq (.t 5) (.t 6))⟩, ⟨(some 3), none, (.mv (.t 7))⟩]) .ret))⟩
theorem c_buddy_Fits_1 : compF Try.prog ⟨some 67, some 66⟩ Try.f34 = some r_buddy_Fits_1 := by kernel_rfl
/-- tenancy/buddy.without -/
def r_buddy_without : RF :=
  ⟨26, [(.tmp 6)], (.seq (.reg [⟨(some 5), none, (.box (some 3) (.t 2))⟩, ⟨(some 6), none, (.mv (.k .nils))⟩]) (.seq (.drw 1 [⟨⟨(some 8), none, (.mv (.t 0))⟩, .pure, [], []⟩, 
  ⟨⟨(some 9), none, (.mv (.t 1))⟩, .pure, [], []⟩, ⟨⟨(some 10), none, (.slc 3 (.t 8) none (some (.t 9)) none)⟩, .pure, [], []⟩, ⟨⟨(some 11), none, (.mv (.t 0))⟩, .pure, [], []⟩, 
  ⟨⟨(some 12), none, (.mv (.t 1))⟩, .pure, [], []⟩, ⟨⟨(some 13), none, (.bin .add (.t 12) (.k (.int .i64 1)))⟩, .pure, [], []⟩, 
  ⟨⟨(some 14), none, (.slc 3 (.t 11) (some (.t 13)) none none)⟩, .pure, [], []⟩, ⟨⟨(some 15), none, (.mv (.t 0))⟩, .pure, [], []⟩, ⟨⟨(some 16), none, (.mv (.t 1))⟩, .pure, [], []⟩, 
  ⟨⟨(some 17), none, (.ixa 3 (.t 15) (.t 16))⟩, .pure, [], []⟩, ⟨⟨(some 18), none, (.ld (some 3) (.t 17))⟩, .ld, [], []⟩, ⟨⟨(some 19), none, (.ld (some 3) (.t 5))⟩, .ld, [], []⟩, 
  ⟨⟨(some 20), none, (.call f_buddy_split [(.t 18), (.t 19)])⟩, .eff, [], [0]⟩, 
  ⟨⟨(some 21), none, (.bsl 1 3 [.nils] [(0, (1, (.t 10))), (1, (1, (.t 14))), (2, (1, (.t 20)))])⟩, (.new 0), [], []⟩, 
  ⟨⟨(some 22), none, (.call f_slices_Concat_Prefix [(.t 21)])⟩, .eff, [], []⟩, ⟨⟨(some 7), none, (.mv (.t 22))⟩, .pure, [], []⟩]) (.seq (.reg [⟨(some 23), none, (.mv (.t 7))⟩, 
  ⟨(some 24), none, (.call f_slices_SortFunc_Prefix [(.t 23), (.k (.fn f_buddy_compare []))])⟩]) (.seq (.reg [⟨(some 25), none, (.mv (.t 7))⟩, 
  ⟨(some 6), none, (.mv (.t 25))⟩]) .ret))))⟩
theorem c_buddy_without : compF Try.prog ⟨some 67, some 66⟩ Try.f35 = some r_buddy_without := by kernel_rfl
/-- tenancy/tenancyref11.rest -/
def r_r11_rest : RF :=
  ⟨76, [(.tmp 6)], (.seq (.reg [⟨(some 3), none, (.box (some 3) (.t 0))⟩, ⟨(some 6), none, (.mv (.k .nils))⟩]) (.seq (.seq (.reg [⟨(some 12), none, (.mv (.t 1))⟩, 
  ⟨(some 13), none, (.ld (some 3) (.t 3))⟩, ⟨(some 14), none, (.call f_r11_met [(.t 12), (.t 13)])⟩, ⟨(some 15), none, (.un .not (.t 14))⟩, ⟨(some 16), none, (.mv (.t 15))⟩, 
  ⟨(some 17), (some (16, false)), (.mv (.t 2))⟩, ⟨(some 18), (some (16, false)), (.ld (some 3) (.t 3))⟩, ⟨(some 19), (some (16, false)), (.call f_r11_covered [(.t 17), (.t 18)])⟩, 
  ⟨(some 20), none, (.pick (.t 16) (.k (.bool true)) (.t 19))⟩]) (.cond (.t 20) (.seq (.reg [⟨(some 6), none, (.mv (.k .nils))⟩]) .ret) .skip)) (.seq (.seq 
  (.reg [⟨(some 21), none, (.mv (.t 1))⟩, ⟨(some 22), none, (.ld (some 3) (.t 3))⟩, ⟨(some 23), none, (.call f_r11_covered [(.t 21), (.t 22)])⟩, ⟨(some 24), none, (.mv (.t 23))⟩, 
  ⟨(some 25), (some (24, true)), (.mv (.t 2))⟩, ⟨(some 26), (some (24, true)), (.ld (some 3) (.t 3))⟩, ⟨(some 27), (some (24, true)), (.call f_r11_met [(.t 25), (.t 26)])⟩, 
  ⟨(some 28), (some (24, true)), (.un .not (.t 27))⟩, ⟨(some 29), none, (.pick (.t 24) (.t 28) (.k (.bool false)))⟩]) (.cond (.t 29) (.seq 
  (.reg [⟨(some 30), none, (.ld (some 3) (.t 3))⟩, ⟨(some 31), none, (.bsl 3 1 [(.int .u64 0), (.int .u64 0), (.int .i64 0)] [(0, (3, (.t 30)))])⟩, 
  ⟨(some 6), none, (.mv (.t 31))⟩]) .ret) .skip)) (.seq (.reg [⟨(some 33), none, (.ld (some 3) (.t 3))⟩, ⟨(some 34), none, (.call f_r01_Halves [(.t 33)])⟩, 
  ⟨(some 32), none, (.mv (.t 34))⟩, ⟨(some 35), none, (.ext 0 (.t 32))⟩, ⟨(some 36), none, (.ext 1 (.t 32))⟩, ⟨(some 37), none, (.ext 2 (.t 32))⟩, 
  ⟨(some 7), none, (.new [(.int .u64 0), (.int .u64 0), (.int .i64 0)])⟩, ⟨(some 8), none, (.new [(.int .u64 0), (.int .u64 0), (.int .i64 0)])⟩, 
  ⟨none, none, (.st (some 3) (.t 7) (.t 35))⟩, ⟨none, none, (.st (some 3) (.t 8) (.t 36))⟩, ⟨(some 9), none, (.mv (.t 37))⟩]) (.seq (.seq (.reg [⟨(some 38), none, (.mv (.t 9))⟩, 
  ⟨(some 39), none, (.un .not (.t 38))⟩]) (.cond (.t 39) (.seq (.reg [⟨(some 6), none, (.mv (.k .nils))⟩]) .ret) .skip)) (.seq (.reg [⟨(some 40), none, (.ld (some 3) (.t 7))⟩, 
  ⟨(some 41), none, (.mv (.t 1))⟩, ⟨(some 42), none, (.mv (.t 2))⟩, ⟨(some 43), none, (.call f_r11_rest [(.t 40), (.t 41), (.t 42)])⟩, ⟨(some 10), none, (.mv (.t 43))⟩]) (.seq 
  (.reg [⟨(some 44), none, (.ld (some 3) (.t 8))⟩, ⟨(some 45), none, (.mv (.t 1))⟩, ⟨(some 46), none, (.mv (.t 2))⟩, 
  ⟨(some 47), none, (.call f_r11_rest [(.t 44), (.t 45), (.t 46)])⟩, ⟨(some 11), none, (.mv (.t 47))⟩]) (.seq (.seq (.drw 0 [⟨⟨(some 48), none, (.mv (.t 10))⟩, .pure, [], []⟩, 
  ⟨⟨(some 49), none, (.lenl (.t 48))⟩, .pure, [], []⟩, ⟨⟨(some 50), none, (.eq false .i (.t 49) (.k (.int .i64 1)))⟩, .pure, [], []⟩, 
  ⟨⟨(some 51), none, (.mv (.t 50))⟩, .pure, [], []⟩, ⟨⟨(some 52), (some (51, true)), (.mv (.t 11))⟩, .pure, [], []⟩, 
  ⟨⟨(some 53), (some (51, true)), (.lenl (.t 52))⟩, .pure, [], []⟩, ⟨⟨(some 54), (some (51, true)), (.eq false .i (.t 53) (.k (.int .i64 1)))⟩, .pure, [], []⟩, 
  ⟨⟨(some 55), none, (.pick (.t 51) (.t 54) (.k (.bool false)))⟩, .pure, [], []⟩, ⟨⟨(some 56), none, (.mv (.t 55))⟩, .pure, [], []⟩, 
  ⟨⟨(some 57), (some (56, true)), (.mv (.t 10))⟩, .pure, [], []⟩, ⟨⟨(some 58), (some (56, true)), (.ixa 3 (.t 57) (.k (.int .i64 0)))⟩, .pure, [], []⟩, 
  ⟨⟨(some 59), (some (56, true)), (.ld (some 3) (.t 58))⟩, .ld, [], []⟩, ⟨⟨(some 60), (some (56, true)), (.ld (some 3) (.t 7))⟩, .ld, [], []⟩, 
  ⟨⟨(some 61), (some (56, true)), (.eq false (.st (.sub 0 2 (.st (.one 0 .i (.one 1 .i .nil))) (.one 2 .i .nil))) (.t 59) (.t 60))⟩, .pure, [], []⟩, 
  ⟨⟨(some 62), none, (.pick (.t 56) (.t 61) (.k (.bool false)))⟩, .pure, [], []⟩, ⟨⟨(some 63), none, (.mv (.t 62))⟩, .pure, [], []⟩, 
  ⟨⟨(some 64), (some (63, true)), (.mv (.t 11))⟩, .pure, [], []⟩, ⟨⟨(some 65), (some (63, true)), (.ixa 3 (.t 64) (.k (.int .i64 0)))⟩, .pure, [], []⟩, 
  ⟨⟨(some 66), (some (63, true)), (.ld (some 3) (.t 65))⟩, .ld, [], []⟩, ⟨⟨(some 67), (some (63, true)), (.ld (some 3) (.t 8))⟩, .ld, [], []⟩, 
  ⟨⟨(some 68), (some (63, true)), (.eq false (.st (.sub 0 2 (.st (.one 0 .i (.one 1 .i .nil))) (.one 2 .i .nil))) (.t 66) (.t 67))⟩, .pure, [], []⟩, 
  ⟨⟨(some 69), none, (.pick (.t 63) (.t 68) (.k (.bool false)))⟩, .pure, [], []⟩]) (.cond (.t 69) (.seq (.reg [⟨(some 70), none, (.ld (some 3) (.t 3))⟩, 
  ⟨(some 71), none, (.bsl 3 1 [(.int .u64 0), (.int .u64 0), (.int .i64 0)] [(0, (3, (.t 70)))])⟩, ⟨(some 6), none, (.mv (.t 71))⟩]) .ret) .skip)) (.seq 
  (.reg [⟨(some 72), none, (.mv (.t 10))⟩, ⟨(some 73), none, (.mv (.t 11))⟩, ⟨(some 74), none, (.app 3 24 (.t 72) (.t 73))⟩, ⟨(some 10), none, (.mv (.t 74))⟩]) (.seq 
  (.reg [⟨(some 75), none, (.mv (.t 10))⟩, ⟨(some 6), none, (.mv (.t 75))⟩]) .ret))))))))))⟩
theorem c_r11_rest : compF Try.prog ⟨some 67, some 66⟩ Try.f36 = some r_r11_rest := by kernel_rfl
/-- slices.IndexFunc[[]tenancy/api.Prefix,tenancy/api.Prefix] -/
def r_slices_IndexFunc_Prefix : RF :=
  ⟨19, [(.tmp 4)], (.seq (.reg [⟨(some 4), none, (.mv (.k (.int .i64 0)))⟩]) (.seq (.seq (.reg [⟨(some 6), none, (.mv (.t 0))⟩, ⟨(some 7), none, (.lenl (.t 6))⟩, 
  ⟨(some 8), none, (.mv (.k (.int .i64 0)))⟩]) (.block 0 (.loop (.seq (.reg [⟨(some 9), none, (.bin .lss (.t 8) (.t 7))⟩]) (.seq (.cond (.t 9) .skip (.exit 0)) (.seq (.block 1 (.seq 
  (.reg [⟨(some 10), none, (.mv (.t 8))⟩, ⟨(some 5), none, (.mv (.t 10))⟩]) (.seq (.reg [⟨(some 11), none, (.mv (.t 1))⟩, ⟨(some 12), none, (.mv (.t 0))⟩, 
  ⟨(some 13), none, (.mv (.t 5))⟩, ⟨(some 14), none, (.ixa 3 (.t 12) (.t 13))⟩, ⟨(some 15), none, (.ld (some 3) (.t 14))⟩, ⟨(some 16), none, (.calld (.t 11) [(.t 15)])⟩]) 
  (.cond (.t 16) (.seq (.reg [⟨(some 17), none, (.mv (.t 5))⟩, ⟨(some 4), none, (.mv (.t 17))⟩]) .ret) .skip)))) (.reg [⟨(some 18), none, (.bin .add (.t 8) (.k (.int .i64 1)))⟩, 
  ⟨(some 8), none, (.mv (.t 18))⟩]))))))) (.seq (.reg [⟨(some 4), none, (.mv (.k (.int .i64 (-1))))⟩]) .ret)))⟩
theorem c_slices_IndexFunc_Prefix : compF Try.prog ⟨some 67, some 66⟩ Try.f37 = some r_slices_IndexFunc_Prefix := by kernel_rfl
/-- tenancy/buddy.Reserve$1 -/
def r_buddy_Reserve_1 : RF :=
  ⟨7, [(.tmp 3)], (.seq (.reg [⟨(some 2), none, (.box (some 3) (.t 0))⟩, ⟨(some 3), none, (.mv (.k (.bool false)))⟩]) (.seq (.reg [⟨(some 4), none, (.ld (some 3) (.t 2))⟩, 
  ⟨(some 5), none, (.ld (some 3) (.t 1))⟩, ⟨(some 6), none, (.call f_addr_Covers [(.t 4), (.t 5)])⟩, ⟨(some 3), none, (.mv (.t 6))⟩]) .ret))⟩
theorem c_buddy_Reserve_1 : compF Try.prog ⟨some 67, some 66⟩ Try.f38 = some r_buddy_Reserve_1 := by kernel_rfl
/-- tenancy/tenancyref11.covered -/
def r_r11_covered : RF :=
  ⟨18, [(.tmp 4)], (.seq (.reg [⟨(some 3), none, (.box (some 3) (.t 1))⟩, ⟨(some 4), none, (.mv (.k (.bool false)))⟩]) (.seq (.seq 
  (.reg [⟨(some 5), none, (.mv (.k (.int .i64 0)))⟩]) (.block 0 (.loop (.seq (.seq (.reg [⟨(some 6), none, (.mv (.t 5))⟩, ⟨(some 7), none, (.mv (.t 0))⟩, 
  ⟨(some 8), none, (.lenl (.t 7))⟩, ⟨(some 9), none, (.bin .lss (.t 6) (.t 8))⟩]) (.cond (.t 9) .skip (.exit 0))) (.seq (.block 1 (.seq 
  (.drw 0 [⟨⟨(some 12), none, (.mv (.t 0))⟩, .pure, [], []⟩, ⟨⟨(some 13), none, (.mv (.t 5))⟩, .pure, [], []⟩, ⟨⟨(some 14), none, (.ixa 3 (.t 12) (.t 13))⟩, .pure, [], []⟩, 
  ⟨⟨(some 15), none, (.ld (some 3) (.t 14))⟩, .ld, [], []⟩, ⟨⟨(some 16), none, (.ld (some 3) (.t 3))⟩, .ld, [], []⟩, 
  ⟨⟨(some 17), none, (.call f_r01_Covers [(.t 15), (.t 16)])⟩, .eff, [], []⟩]) (.cond (.t 17) (.seq (.reg [⟨(some 4), none, (.mv (.k (.bool true)))⟩]) .ret) .skip))) 
  (.reg [⟨(some 10), none, (.mv (.t 5))⟩, ⟨(some 11), none, (.bin .add (.t 10) (.k (.int .i64 1)))⟩, ⟨(some 5), none, (.mv (.t 11))⟩])))))) (.seq 
  (.reg [⟨(some 4), none, (.mv (.k (.bool false)))⟩]) .ret)))⟩
theorem c_r11_covered : compF Try.prog ⟨some 67, some 66⟩ Try.f39 = some r_r11_covered := by kernel_rfl
/-- tenancy/buddy.Give$1 -/
def r_buddy_Give_1 : RF :=
  ⟨7, [(.tmp 3)], (.seq (.reg [⟨(some 2), none, (.box (some 3) (.t 0))⟩, ⟨(some 3), none, (.mv (.k (.bool false)))⟩]) (.seq (.reg [⟨(some 4), none, (.ld (some 3) (.t 2))⟩, 
  ⟨(some 5), none, (.ld (some 3) (.t 1))⟩, ⟨(some 6), none, (.call f_addr_Meets [(.t 4), (.t 5)])⟩, ⟨(some 3), none, (.mv (.t 6))⟩]) .ret))⟩
theorem c_buddy_Give_1 : compF Try.prog ⟨some 67, some 66⟩ Try.f40 = some r_buddy_Give_1 := by kernel_rfl
/-- tenancy/addr.Meets -/
def r_addr_Meets : RF :=
  ⟨13, [(.tmp 4)], (.seq (.reg [⟨(some 2), none, (.box (some 3) (.t 0))⟩, ⟨(some 3), none, (.box (some 3) (.t 1))⟩, ⟨(some 4), none, (.mv (.k (.bool false)))⟩]) (.seq 
  (.reg [⟨(some 5), none, (.ld (some 3) (.t 2))⟩, ⟨(some 6), none, (.ld (some 3) (.t 3))⟩, ⟨(some 7), none, (.call f_addr_Covers [(.t 5), (.t 6)])⟩, ⟨(some 8), none, (.mv (.t 7))⟩, 
  ⟨(some 9), (some (8, false)), (.ld (some 3) (.t 3))⟩, ⟨(some 10), (some (8, false)), (.ld (some 3) (.t 2))⟩, 
  ⟨(some 11), (some (8, false)), (.call f_addr_Covers [(.t 9), (.t 10)])⟩, ⟨(some 12), none, (.pick (.t 8) (.k (.bool true)) (.t 11))⟩, ⟨(some 4), none, (.mv (.t 12))⟩]) .ret))⟩
theorem c_addr_Meets : compF Try.prog ⟨some 67, some 66⟩ Try.f41 = some r_addr_Meets := by kernel_rfl
/-- slices.Clone[[]tenancy/api.Prefix,tenancy/api.Prefix] -/
def r_slices_Clone_Prefix : RF :=
  ⟨8, [(.tmp 2)], (.seq (.reg [⟨(some 2), none, (.mv (.k .nils))⟩]) (.seq (.seq (.reg [⟨(some 3), none, (.mv (.t 0))⟩, ⟨(some 4), none, (.eq false .l (.t 3) (.k .nils))⟩]) 
  (.cond (.t 4) (.seq (.reg [⟨(some 2), none, (.mv (.k .nils))⟩]) .ret) .skip)) (.seq (.reg [⟨(some 5), none, (.bsl 3 0 [(.int .u64 0), (.int .u64 0), (.int .i64 0)] [])⟩, 
  ⟨(some 6), none, (.mv (.t 0))⟩, ⟨(some 7), none, (.app 3 24 (.t 5) (.t 6))⟩, ⟨(some 2), none, (.mv (.t 7))⟩]) .ret)))⟩
theorem c_slices_Clone_Prefix : compF Try.prog ⟨some 67, some 66⟩ Try.f42 = some r_slices_Clone_Prefix := by kernel_rfl
/-- slices.Index[[]tenancy/api.Prefix,tenancy/api.Prefix] -/
def r_slices_Index_Prefix : RF :=
  ⟨19, [(.tmp 4)], (.seq (.reg [⟨(some 3), none, (.box (some 3) (.t 1))⟩, ⟨(some 4), none, (.mv (.k (.int .i64 0)))⟩]) (.seq (.seq (.reg [⟨(some 6), none, (.mv (.t 0))⟩, 
  ⟨(some 7), none, (.lenl (.t 6))⟩, ⟨(some 8), none, (.mv (.k (.int .i64 0)))⟩]) (.block 0 (.loop (.seq (.reg [⟨(some 9), none, (.bin .lss (.t 8) (.t 7))⟩]) (.seq 
  (.cond (.t 9) .skip (.exit 0)) (.seq (.block 1 (.seq (.reg [⟨(some 10), none, (.mv (.t 8))⟩, ⟨(some 5), none, (.mv (.t 10))⟩]) (.seq 
  (.drw 0 [⟨⟨(some 11), none, (.ld (some 3) (.t 3))⟩, .ld, [], []⟩, ⟨⟨(some 12), none, (.mv (.t 0))⟩, .pure, [0], []⟩, ⟨⟨(some 13), none, (.mv (.t 5))⟩, .pure, [0], []⟩, 
  ⟨⟨(some 14), none, (.ixa 3 (.t 12) (.t 13))⟩, .pure, [0], []⟩, ⟨⟨(some 15), none, (.ld (some 3) (.t 14))⟩, .ld, [], []⟩, 
  ⟨⟨(some 16), none, (.eq false (.st (.sub 0 2 (.st (.one 0 .i (.one 1 .i .nil))) (.one 2 .i .nil))) (.t 11) (.t 15))⟩, .pure, [], []⟩]) (.cond (.t 16) (.seq 
  (.reg [⟨(some 17), none, (.mv (.t 5))⟩, ⟨(some 4), none, (.mv (.t 17))⟩]) .ret) .skip)))) (.reg [⟨(some 18), none, (.bin .add (.t 8) (.k (.int .i64 1)))⟩, 
  ⟨(some 8), none, (.mv (.t 18))⟩]))))))) (.seq (.reg [⟨(some 4), none, (.mv (.k (.int .i64 (-1))))⟩]) .ret)))⟩
theorem c_slices_Index_Prefix : compF Try.prog ⟨some 67, some 66⟩ Try.f43 = some r_slices_Index_Prefix := by kernel_rfl
/-- slices.Delete[[]tenancy/api.Prefix,tenancy/api.Prefix] -/
def r_slices_Delete_Prefix : RF :=
  ⟨33, [(.tmp 6)], (.seq (.reg [⟨(some 6), none, (.mv (.k .nils))⟩]) (.seq (.reg [⟨(some 8), none, (.mv (.t 0))⟩, ⟨(some 9), none, (.mv (.t 1))⟩, ⟨(some 10), none, (.mv (.t 2))⟩, 
  ⟨(some 11), none, (.mv (.t 0))⟩, ⟨(some 12), none, (.lenl (.t 11))⟩, ⟨(some 13), none, (.slc 3 (.t 8) (some (.t 9)) (some (.t 10)) (some (.t 12)))⟩]) (.seq (.seq 
  (.reg [⟨(some 14), none, (.mv (.t 1))⟩, ⟨(some 15), none, (.mv (.t 2))⟩, ⟨(some 16), none, (.eq false .i (.t 14) (.t 15))⟩]) (.cond (.t 16) (.seq 
  (.reg [⟨(some 17), none, (.mv (.t 0))⟩, ⟨(some 6), none, (.mv (.t 17))⟩]) .ret) .skip)) (.seq (.reg [⟨(some 18), none, (.mv (.t 0))⟩, ⟨(some 19), none, (.lenl (.t 18))⟩, 
  ⟨(some 7), none, (.mv (.t 19))⟩]) (.seq (.drw 0 [⟨⟨(some 20), none, (.mv (.t 0))⟩, .pure, [], []⟩, ⟨⟨(some 21), none, (.mv (.t 1))⟩, .pure, [], []⟩, 
  ⟨⟨(some 22), none, (.slc 3 (.t 20) none (some (.t 21)) none)⟩, .pure, [], []⟩, ⟨⟨(some 23), none, (.mv (.t 0))⟩, .pure, [], []⟩, ⟨⟨(some 24), none, (.mv (.t 2))⟩, .pure, [], []⟩, 
  ⟨⟨(some 25), none, (.slc 3 (.t 23) (some (.t 24)) none none)⟩, .pure, [], []⟩, ⟨⟨(some 26), none, (.app 3 24 (.t 22) (.t 25))⟩, .eff, [], []⟩, 
  ⟨⟨(some 0), none, (.mv (.t 26))⟩, .pure, [], []⟩]) (.seq (.reg [⟨(some 27), none, (.mv (.t 0))⟩, ⟨(some 28), none, (.mv (.t 0))⟩, ⟨(some 29), none, (.lenl (.t 28))⟩, 
  ⟨(some 30), none, (.mv (.t 7))⟩, ⟨(some 31), none, (.slc 3 (.t 27) (some (.t 29)) (some (.t 30)) none)⟩, 
  ⟨none, none, (.xt (.clr 3 [(.int .u64 0), (.int .u64 0), (.int .i64 0)]) [(.t 31)])⟩]) (.seq (.reg [⟨(some 32), none, (.mv (.t 0))⟩, ⟨(some 6), none, (.mv (.t 32))⟩]) .ret)))))))⟩
theorem c_slices_Delete_Prefix : compF Try.prog ⟨some 67, some 66⟩ Try.f44 = some r_slices_Delete_Prefix := by kernel_rfl
/-- tenancy/addr.Clip -/
def r_addr_Clip : RF :=
  ⟨22, [(.cell (some 3) 4), (.tmp 5)], (.seq (.reg [⟨(some 2), none, (.box (some 2) (.t 0))⟩, ⟨(some 4), none, (.new [(.int .u64 0), (.int .u64 0), (.int .i64 0)])⟩, 
  ⟨(some 5), none, (.mv (.k (.bool false)))⟩]) (.seq (.seq (.reg [⟨(some 6), none, (.mv (.t 1))⟩, ⟨(some 7), none, (.bin .lss (.t 6) (.k (.int .i64 0)))⟩, 
  ⟨(some 8), none, (.mv (.t 7))⟩, ⟨(some 9), (some (8, false)), (.mv (.t 1))⟩, ⟨(some 10), (some (8, false)), (.bin .gtr (.t 9) (.k (.int .i64 128)))⟩, 
  ⟨(some 11), none, (.pick (.t 8) (.k (.bool true)) (.t 10))⟩]) (.cond (.t 11) (.seq (.reg [⟨(some 12), none, (.bld [(.int .u64 0), (.int .u64 0), (.int .i64 0)] [])⟩, 
  ⟨none, none, (.st (some 3) (.t 4) (.t 12))⟩, ⟨(some 5), none, (.mv (.k (.bool false)))⟩]) .ret) .skip)) (.seq (.reg [⟨(some 13), none, (.ld (some 2) (.t 2))⟩, 
  ⟨(some 14), none, (.mv (.t 1))⟩, ⟨(some 15), none, (.bin .sub (.k (.int .i64 128)) (.t 14))⟩, ⟨(some 16), none, (.call f_addr_Down [(.t 13), (.t 15)])⟩, 
  ⟨(some 17), none, (.mv (.t 1))⟩, ⟨(some 18), none, (.bin .sub (.k (.int .i64 128)) (.t 17))⟩, ⟨(some 19), none, (.call f_addr_Up [(.t 16), (.t 18)])⟩, 
  ⟨(some 20), none, (.mv (.t 1))⟩, ⟨(some 21), none, (.bld [(.int .u64 0), (.int .u64 0), (.int .i64 0)] [(0, (2, (.t 19))), (2, (1, (.t 20)))])⟩, 
  ⟨none, none, (.st (some 3) (.t 4) (.t 21))⟩, ⟨(some 5), none, (.mv (.k (.bool true)))⟩]) .ret)))⟩
theorem c_addr_Clip : compF Try.prog ⟨some 67, some 66⟩ Try.f45 = some r_addr_Clip := by kernel_rfl
/-- slices.SortFunc[[]tenancy/api.Prefix,tenancy/api.Prefix] -/
def r_slices_SortFunc_Prefix : RF :=
  ⟨14, [], (.seq (.reg [⟨(some 5), none, (.mv (.t 0))⟩, ⟨(some 6), none, (.lenl (.t 5))⟩, ⟨(some 4), none, (.mv (.t 6))⟩]) (.reg [⟨(some 7), none, (.mv (.t 0))⟩, 
  ⟨(some 8), none, (.mv (.t 4))⟩, ⟨(some 9), none, (.mv (.t 4))⟩, ⟨(some 10), none, (.cvi .u64 (.t 9))⟩, ⟨(some 11), none, (.call f_bits_Len [(.t 10)])⟩, 
  ⟨(some 12), none, (.mv (.t 1))⟩, ⟨(some 13), none, (.call f_slices_pdqsortCmpFunc_Prefix [(.t 7), (.k (.int .i64 0)), (.t 8), (.t 11), (.t 12)])⟩]))⟩
theorem c_slices_SortFunc_Prefix : compF Try.prog ⟨some 67, some 66⟩ Try.f46 = some r_slices_SortFunc_Prefix := by kernel_rfl
/-- tenancy/buddy.compare -/
def r_buddy_compare : RF :=
  ⟨10, [(.tmp 4)], (.seq (.reg [⟨(some 2), none, (.box (some 3) (.t 0))⟩, ⟨(some 3), none, (.box (some 3) (.t 1))⟩, ⟨(some 4), none, (.mv (.k (.int .i64 0)))⟩]) (.seq 
  (.reg [⟨(some 5), none, (.off 0 (.t 2))⟩, ⟨(some 6), none, (.ld (some 2) (.t 5))⟩, ⟨(some 7), none, (.off 0 (.t 3))⟩, ⟨(some 8), none, (.ld (some 2) (.t 7))⟩, 
  ⟨(some 9), none, (.call f_addr_Cmp [(.t 6), (.t 8)])⟩, ⟨(some 4), none, (.mv (.t 9))⟩]) .ret))⟩
theorem c_buddy_compare : compF Try.prog ⟨some 67, some 66⟩ Try.f47 = some r_buddy_compare := by kernel_rfl
/-- tenancy/tenancyref11.met -/
def r_r11_met : RF :=
  ⟨18, [(.tmp 4)], (.seq (.reg [⟨(some 3), none, (.box (some 3) (.t 1))⟩, ⟨(some 4), none, (.mv (.k (.bool false)))⟩]) (.seq (.seq 
  (.reg [⟨(some 5), none, (.mv (.k (.int .i64 0)))⟩]) (.block 0 (.loop (.seq (.seq (.reg [⟨(some 6), none, (.mv (.t 5))⟩, ⟨(some 7), none, (.mv (.t 0))⟩, 
  ⟨(some 8), none, (.lenl (.t 7))⟩, ⟨(some 9), none, (.bin .lss (.t 6) (.t 8))⟩]) (.cond (.t 9) .skip (.exit 0))) (.seq (.block 1 (.seq 
  (.drw 0 [⟨⟨(some 12), none, (.mv (.t 0))⟩, .pure, [], []⟩, ⟨⟨(some 13), none, (.mv (.t 5))⟩, .pure, [], []⟩, ⟨⟨(some 14), none, (.ixa 3 (.t 12) (.t 13))⟩, .pure, [], []⟩, 
  ⟨⟨(some 15), none, (.ld (some 3) (.t 14))⟩, .ld, [], []⟩, ⟨⟨(some 16), none, (.ld (some 3) (.t 3))⟩, .ld, [], []⟩, 
  ⟨⟨(some 17), none, (.call f_r01_Meets [(.t 15), (.t 16)])⟩, .eff, [], []⟩]) (.cond (.t 17) (.seq (.reg [⟨(some 4), none, (.mv (.k (.bool true)))⟩]) .ret) .skip))) 
  (.reg [⟨(some 10), none, (.mv (.t 5))⟩, ⟨(some 11), none, (.bin .add (.t 10) (.k (.int .i64 1)))⟩, ⟨(some 5), none, (.mv (.t 11))⟩])))))) (.seq 
  (.reg [⟨(some 4), none, (.mv (.k (.bool false)))⟩]) .ret)))⟩
theorem c_r11_met : compF Try.prog ⟨some 67, some 66⟩ Try.f48 = some r_r11_met := by kernel_rfl
/-- tenancy/buddy.Free$1 -/
def r_buddy_Free_1 : RF :=
  ⟨8, [(.tmp 3)], (.seq (.reg [⟨(some 2), none, (.box (some 3) (.t 0))⟩, ⟨(some 3), none, (.mv (.k (.bool false)))⟩]) (.seq (.reg [⟨(some 4), none, (.ld (some 3) (.t 1))⟩, 
  ⟨(some 5), none, (.ld (some 3) (.t 2))⟩, ⟨(some 6), none, (.call f_addr_Covers [(.t 4), (.t 5)])⟩, ⟨(some 7), none, (.un .not (.t 6))⟩, ⟨(some 3), none, (.mv (.t 7))⟩]) .ret))⟩
theorem c_buddy_Free_1 : compF Try.prog ⟨some 67, some 66⟩ Try.f49 = some r_buddy_Free_1 := by kernel_rfl
/-- tenancy/addr.Has -/
def r_addr_Has : RF :=
  ⟨24, [(.tmp 4)], (.seq (.reg [⟨(some 2), none, (.box (some 3) (.t 0))⟩, ⟨(some 3), none, (.box (some 2) (.t 1))⟩, ⟨(some 4), none, (.mv (.k (.bool false)))⟩]) (.seq 
  (.reg [⟨(some 6), none, (.ld (some 3) (.t 2))⟩, ⟨(some 7), none, (.call f_addr_Span [(.t 6)])⟩, 
  ⟨(some 5), none, (.new [(.int .u64 0), (.int .u64 0), (.int .u64 0), (.int .u64 0)])⟩, ⟨none, none, (.st (some 4) (.t 5) (.t 7))⟩]) (.seq 
  (.reg [⟨(some 8), none, (.ld (some 3) (.t 2))⟩, ⟨(some 9), none, (.call f_addr_Sound [(.t 8)])⟩, ⟨(some 10), none, (.mv (.t 9))⟩, ⟨(some 11), (some (10, true)), (.off 0 (.t 5))⟩, 
  ⟨(some 12), (some (10, true)), (.ld (some 2) (.t 11))⟩, ⟨(some 13), (some (10, true)), (.ld (some 2) (.t 3))⟩, 
  ⟨(some 14), (some (10, true)), (.call f_addr_Cmp [(.t 12), (.t 13)])⟩, ⟨(some 15), (some (10, true)), (.bin .leq (.t 14) (.k (.int .i64 0)))⟩, 
  ⟨(some 16), none, (.pick (.t 10) (.t 15) (.k (.bool false)))⟩, ⟨(some 17), none, (.mv (.t 16))⟩, ⟨(some 18), (some (17, true)), (.ld (some 2) (.t 3))⟩, 
  ⟨(some 19), (some (17, true)), (.off 2 (.t 5))⟩, ⟨(some 20), (some (17, true)), (.ld (some 2) (.t 19))⟩, ⟨(some 21), (some (17, true)), (.call f_addr_Cmp [(.t 18), (.t 20)])⟩, 
  ⟨(some 22), (some (17, true)), (.bin .leq (.t 21) (.k (.int .i64 0)))⟩, ⟨(some 23), none, (.pick (.t 17) (.t 22) (.k (.bool false)))⟩, ⟨(some 4), none, (.mv (.t 23))⟩]) .ret)))⟩
theorem c_addr_Has : compF Try.prog ⟨some 67, some 66⟩ Try.f50 = some r_addr_Has := by kernel_rfl
/-- tenancy/addr.Sub -/
def r_addr_Sub : RF :=
  ⟨31, [(.cell (some 2) 4), (.tmp 5)], (.seq (.reg [⟨(some 2), none, (.box (some 2) (.t 0))⟩, ⟨(some 3), none, (.box (some 2) (.t 1))⟩, 
  ⟨(some 4), none, (.new [(.int .u64 0), (.int .u64 0)])⟩, ⟨(some 5), none, (.mv (.k (.bool false)))⟩]) (.seq (.reg [⟨(some 10), none, (.off 1 (.t 2))⟩, 
  ⟨(some 11), none, (.ld none (.t 10))⟩, ⟨(some 12), none, (.off 1 (.t 3))⟩, ⟨(some 13), none, (.ld none (.t 12))⟩, ⟨(some 14), none, (.sub64 (.t 11) (.t 13) (.k (.int .u64 0)))⟩, 
  ⟨(some 9), none, (.mv (.t 14))⟩, ⟨(some 15), none, (.ext 0 (.t 9))⟩, ⟨(some 16), none, (.ext 1 (.t 9))⟩, ⟨(some 6), none, (.mv (.t 15))⟩, ⟨(some 7), none, (.mv (.t 16))⟩]) (.seq 
  (.reg [⟨(some 18), none, (.off 0 (.t 2))⟩, ⟨(some 19), none, (.ld none (.t 18))⟩, ⟨(some 20), none, (.off 0 (.t 3))⟩, ⟨(some 21), none, (.ld none (.t 20))⟩, 
  ⟨(some 22), none, (.mv (.t 7))⟩, ⟨(some 23), none, (.sub64 (.t 19) (.t 21) (.t 22))⟩, ⟨(some 17), none, (.mv (.t 23))⟩, ⟨(some 24), none, (.ext 0 (.t 17))⟩, 
  ⟨(some 25), none, (.ext 1 (.t 17))⟩, ⟨(some 8), none, (.mv (.t 24))⟩, ⟨(some 7), none, (.mv (.t 25))⟩]) (.seq (.reg [⟨(some 26), none, (.mv (.t 8))⟩, 
  ⟨(some 27), none, (.mv (.t 6))⟩, ⟨(some 28), none, (.bld [(.int .u64 0), (.int .u64 0)] [(0, (1, (.t 26))), (1, (1, (.t 27)))])⟩, ⟨(some 29), none, (.mv (.t 7))⟩, 
  ⟨(some 30), none, (.eq true .i (.t 29) (.k (.int .u64 0)))⟩, ⟨none, none, (.st (some 2) (.t 4) (.t 28))⟩, ⟨(some 5), none, (.mv (.t 30))⟩]) .ret))))⟩
theorem c_addr_Sub : compF Try.prog ⟨some 67, some 66⟩ Try.f51 = some r_addr_Sub := by kernel_rfl
/-- tenancy/addr.Add -/
def r_addr_Add : RF :=
  ⟨31, [(.cell (some 2) 4), (.tmp 5)], (.seq (.reg [⟨(some 2), none, (.box (some 2) (.t 0))⟩, ⟨(some 3), none, (.box (some 2) (.t 1))⟩, 
  ⟨(some 4), none, (.new [(.int .u64 0), (.int .u64 0)])⟩, ⟨(some 5), none, (.mv (.k (.bool false)))⟩]) (.seq (.reg [⟨(some 10), none, (.off 1 (.t 2))⟩, 
  ⟨(some 11), none, (.ld none (.t 10))⟩, ⟨(some 12), none, (.off 1 (.t 3))⟩, ⟨(some 13), none, (.ld none (.t 12))⟩, ⟨(some 14), none, (.add64 (.t 11) (.t 13) (.k (.int .u64 0)))⟩, 
  ⟨(some 9), none, (.mv (.t 14))⟩, ⟨(some 15), none, (.ext 0 (.t 9))⟩, ⟨(some 16), none, (.ext 1 (.t 9))⟩, ⟨(some 6), none, (.mv (.t 15))⟩, ⟨(some 7), none, (.mv (.t 16))⟩]) (.seq 
  (.reg [⟨(some 18), none, (.off 0 (.t 2))⟩, ⟨(some 19), none, (.ld none (.t 18))⟩, ⟨(some 20), none, (.off 0 (.t 3))⟩, ⟨(some 21), none, (.ld none (.t 20))⟩, 
  ⟨(some 22), none, (.mv (.t 7))⟩, ⟨(some 23), none, (.add64 (.t 19) (.t 21) (.t 22))⟩, ⟨(some 17), none, (.mv (.t 23))⟩, ⟨(some 24), none, (.ext 0 (.t 17))⟩, 
  ⟨(some 25), none, (.ext 1 (.t 17))⟩, ⟨(some 8), none, (.mv (.t 24))⟩, ⟨(some 7), none, (.mv (.t 25))⟩]) (.seq (.reg [⟨(some 26), none, (.mv (.t 8))⟩, 
  ⟨(some 27), none, (.mv (.t 6))⟩, ⟨(some 28), none, (.bld [(.int .u64 0), (.int .u64 0)] [(0, (1, (.t 26))), (1, (1, (.t 27)))])⟩, ⟨(some 29), none, (.mv (.t 7))⟩, 
  ⟨(some 30), none, (.eq true .i (.t 29) (.k (.int .u64 0)))⟩, ⟨none, none, (.st (some 2) (.t 4) (.t 28))⟩, ⟨(some 5), none, (.mv (.t 30))⟩]) .ret))))⟩
theorem c_addr_Add : compF Try.prog ⟨some 67, some 66⟩ Try.f52 = some r_addr_Add := by kernel_rfl
/-- tenancy/addr.Down -/
def r_addr_Down : RF :=
  ⟨33, [(.cell (some 2) 4)], (.seq (.reg [⟨(some 2), none, (.box (some 2) (.t 0))⟩, ⟨(some 4), none, (.new [(.int .u64 0), (.int .u64 0)])⟩]) (.seq (.block 0 (.seq 
  (.reg [⟨(some 6), none, (.mv (.t 1))⟩, ⟨(some 7), none, (.bin .leq (.t 6) (.k (.int .i64 0)))⟩, ⟨(some 5), none, (.mv (.t 7))⟩]) (.cond (.t 5) (.seq 
  (.reg [⟨(some 8), none, (.ld (some 2) (.t 2))⟩, ⟨none, none, (.st (some 2) (.t 4) (.t 8))⟩]) .ret) (.seq (.reg [⟨(some 10), none, (.mv (.t 1))⟩, 
  ⟨(some 11), none, (.bin .geq (.t 10) (.k (.int .i64 64)))⟩, ⟨(some 9), none, (.mv (.t 11))⟩]) (.cond (.t 9) (.seq (.reg [⟨(some 12), none, (.off 0 (.t 2))⟩, 
  ⟨(some 13), none, (.ld none (.t 12))⟩, ⟨(some 14), none, (.mv (.t 1))⟩, ⟨(some 15), none, (.bin .sub (.t 14) (.k (.int .i64 64)))⟩, ⟨(some 16), none, (.bin .shr (.t 13) (.t 15))⟩, 
  ⟨(some 17), none, (.bld [(.int .u64 0), (.int .u64 0)] [(1, (1, (.t 16)))])⟩, ⟨none, none, (.st (some 2) (.t 4) (.t 17))⟩]) .ret) .skip))))) (.seq 
  (.drw 0 [⟨⟨(some 18), none, (.off 0 (.t 2))⟩, .pure, [], []⟩, ⟨⟨(some 19), none, (.ld none (.t 18))⟩, .ld, [], []⟩, ⟨⟨(some 20), none, (.mv (.t 1))⟩, .pure, [1], []⟩, 
  ⟨⟨(some 21), none, (.bin .shr (.t 19) (.t 20))⟩, .pure, [], []⟩, ⟨⟨(some 22), none, (.off 1 (.t 2))⟩, .pure, [1], []⟩, ⟨⟨(some 23), none, (.ld none (.t 22))⟩, .ld, [], []⟩, 
  ⟨⟨(some 24), none, (.mv (.t 1))⟩, .pure, [1, 5], []⟩, ⟨⟨(some 25), none, (.bin .shr (.t 23) (.t 24))⟩, .pure, [1], []⟩, ⟨⟨(some 26), none, (.off 0 (.t 2))⟩, .pure, [1, 5], []⟩, 
  ⟨⟨(some 27), none, (.ld none (.t 26))⟩, .ld, [], []⟩, ⟨⟨(some 28), none, (.mv (.t 1))⟩, .pure, [1, 5, 9], []⟩, 
  ⟨⟨(some 29), none, (.bin .sub (.k (.int .i64 64)) (.t 28))⟩, .pure, [1, 5, 9], []⟩, ⟨⟨(some 30), none, (.bin .shl (.t 27) (.t 29))⟩, .pure, [1, 5], []⟩, 
  ⟨⟨(some 31), none, (.bin .or (.t 25) (.t 30))⟩, .pure, [1], []⟩, ⟨⟨(some 32), none, (.bld [(.int .u64 0), (.int .u64 0)] [(0, (1, (.t 21))), (1, (1, (.t 31)))])⟩, .pure, [], []⟩, 
  ⟨⟨none, none, (.st (some 2) (.t 4) (.t 32))⟩, .eff, [], []⟩]) .ret)))⟩
theorem c_addr_Down : compF Try.prog ⟨some 67, some 66⟩ Try.f53 = some r_addr_Down := by kernel_rfl
/-- tenancy/addr.Halves -/
def r_addr_Halves : RF :=
  ⟨41, [(.cell (some 3) 2), (.cell (some 3) 3), (.tmp 4)], (.seq (.reg [⟨(some 1), none, (.box (some 3) (.t 0))⟩, 
  ⟨(some 2), none, (.new [(.int .u64 0), (.int .u64 0), (.int .i64 0)])⟩, ⟨(some 3), none, (.new [(.int .u64 0), (.int .u64 0), (.int .i64 0)])⟩, 
  ⟨(some 4), none, (.mv (.k (.bool false)))⟩]) (.seq (.seq (.reg [⟨(some 8), none, (.ld (some 3) (.t 1))⟩, ⟨(some 9), none, (.call f_addr_Sound [(.t 8)])⟩, 
  ⟨(some 10), none, (.un .not (.t 9))⟩, ⟨(some 11), none, (.mv (.t 10))⟩, ⟨(some 12), (some (11, false)), (.off 2 (.t 1))⟩, ⟨(some 13), (some (11, false)), (.ld none (.t 12))⟩, 
  ⟨(some 14), (some (11, false)), (.eq false .i (.t 13) (.k (.int .i64 128)))⟩, ⟨(some 15), none, (.pick (.t 11) (.k (.bool true)) (.t 14))⟩]) (.cond (.t 15) (.seq 
  (.reg [⟨(some 16), none, (.bld [(.int .u64 0), (.int .u64 0), (.int .i64 0)] [])⟩, ⟨(some 17), none, (.bld [(.int .u64 0), (.int .u64 0), (.int .i64 0)] [])⟩, 
  ⟨none, none, (.st (some 3) (.t 2) (.t 16))⟩, ⟨none, none, (.st (some 3) (.t 3) (.t 17))⟩, ⟨(some 4), none, (.mv (.k (.bool false)))⟩]) .ret) .skip)) (.seq 
  (.reg [⟨(some 18), none, (.bld [(.int .u64 0), (.int .u64 0)] [(1, (1, (.k (.int .u64 1))))])⟩, ⟨(some 19), none, (.off 2 (.t 1))⟩, ⟨(some 20), none, (.ld none (.t 19))⟩, 
  ⟨(some 21), none, (.bin .sub (.k (.int .i64 127)) (.t 20))⟩, ⟨(some 22), none, (.call f_addr_Up [(.t 18), (.t 21)])⟩, ⟨(some 5), none, (.new [(.int .u64 0), (.int .u64 0)])⟩, 
  ⟨none, none, (.st (some 2) (.t 5) (.t 22))⟩]) (.seq (.reg [⟨(some 24), none, (.off 0 (.t 1))⟩, ⟨(some 25), none, (.ld (some 2) (.t 24))⟩, ⟨(some 26), none, (.ld (some 2) (.t 5))⟩, 
  ⟨(some 27), none, (.call f_addr_Add [(.t 25), (.t 26)])⟩, ⟨(some 23), none, (.mv (.t 27))⟩, ⟨(some 28), none, (.ext 0 (.t 23))⟩, ⟨(some 29), none, (.ext 1 (.t 23))⟩, 
  ⟨(some 6), none, (.new [(.int .u64 0), (.int .u64 0)])⟩, ⟨none, none, (.st (some 2) (.t 6) (.t 28))⟩, ⟨(some 7), none, (.mv (.t 29))⟩]) (.seq 
  (.drw 0 [⟨⟨(some 30), none, (.off 0 (.t 1))⟩, .pure, [], []⟩, ⟨⟨(some 31), none, (.ld (some 2) (.t 30))⟩, .ld, [], []⟩, ⟨⟨(some 32), none, (.off 2 (.t 1))⟩, .pure, [1], []⟩, 
  ⟨⟨(some 33), none, (.ld none (.t 32))⟩, .ld, [], []⟩, ⟨⟨(some 34), none, (.bin .add (.t 33) (.k (.int .i64 1)))⟩, .pure, [1], []⟩, 
  ⟨⟨(some 35), none, (.bld [(.int .u64 0), (.int .u64 0), (.int .i64 0)] [(0, (2, (.t 31))), (2, (1, (.t 34)))])⟩, .pure, [], []⟩, 
  ⟨⟨(some 36), none, (.ld (some 2) (.t 6))⟩, .ld, [], []⟩, ⟨⟨(some 37), none, (.off 2 (.t 1))⟩, .pure, [1, 3, 6], []⟩, ⟨⟨(some 38), none, (.ld none (.t 37))⟩, .ld, [], []⟩, 
  ⟨⟨(some 39), none, (.bin .add (.t 38) (.k (.int .i64 1)))⟩, .pure, [1, 3, 6], []⟩, 
  ⟨⟨(some 40), none, (.bld [(.int .u64 0), (.int .u64 0), (.int .i64 0)] [(0, (2, (.t 36))), (2, (1, (.t 39)))])⟩, .pure, [1, 3], []⟩, 
  ⟨⟨none, none, (.st (some 3) (.t 2) (.t 35))⟩, .eff, [6, 8], []⟩, ⟨⟨none, none, (.st (some 3) (.t 3) (.t 40))⟩, .eff, [], []⟩, 
  ⟨⟨(some 4), none, (.mv (.k (.bool true)))⟩, .pure, [], []⟩]) .ret)))))⟩
theorem c_addr_Halves : compF Try.prog ⟨some 67, some 66⟩ Try.f54 = some r_addr_Halves := by kernel_rfl
/-- cmp.Or[int] -/
def r_cmp_Or_int : RF :=
  ⟨18, [(.tmp 2)], (.seq (.reg [⟨(some 2), none, (.mv (.k (.int .i64 0)))⟩]) (.seq (.reg [⟨(some 3), none, (.mv (.k (.int .i64 0)))⟩]) (.seq (.seq 
  (.reg [⟨(some 6), none, (.mv (.t 0))⟩, ⟨(some 7), none, (.lenl (.t 6))⟩, ⟨(some 8), none, (.mv (.k (.int .i64 0)))⟩]) (.block 0 (.loop (.seq 
  (.reg [⟨(some 9), none, (.bin .lss (.t 8) (.t 7))⟩]) (.seq (.cond (.t 9) .skip (.exit 0)) (.seq (.block 1 (.seq (.reg [⟨(some 10), none, (.ixa 1 (.t 6) (.t 8))⟩, 
  ⟨(some 11), none, (.ld none (.t 10))⟩, ⟨(some 5), none, (.mv (.t 11))⟩]) (.seq (.reg [⟨(some 12), none, (.mv (.t 5))⟩, ⟨(some 13), none, (.mv (.t 3))⟩, 
  ⟨(some 14), none, (.eq true .i (.t 12) (.t 13))⟩]) (.cond (.t 14) (.seq (.reg [⟨(some 15), none, (.mv (.t 5))⟩, ⟨(some 2), none, (.mv (.t 15))⟩]) .ret) .skip)))) 
  (.reg [⟨(some 16), none, (.bin .add (.t 8) (.k (.int .i64 1)))⟩, ⟨(some 8), none, (.mv (.t 16))⟩]))))))) (.seq (.reg [⟨(some 17), none, (.mv (.t 3))⟩, 
  ⟨(some 2), none, (.mv (.t 17))⟩]) .ret))))⟩
theorem c_cmp_Or_int : compF Try.prog ⟨some 67, some 66⟩ Try.f55 = some r_cmp_Or_int := by kernel_rfl
/-- cmp.Compare[uint64] -/
def r_cmp_Compare_uint64 : RF :=
  ⟨20, [(.tmp 4)], (.seq (.reg [⟨(some 4), none, (.mv (.k (.int .i64 0)))⟩]) (.seq (.reg [⟨(some 7), none, (.mv (.t 0))⟩, ⟨(some 8), none, (.call f_cmp_isNaN_uint64 [(.t 7)])⟩, 
  ⟨(some 5), none, (.mv (.t 8))⟩]) (.seq (.reg [⟨(some 9), none, (.mv (.t 1))⟩, ⟨(some 10), none, (.call f_cmp_isNaN_uint64 [(.t 9)])⟩, ⟨(some 6), none, (.mv (.t 10))⟩]) (.seq (.seq 
  (.reg [⟨(some 11), none, (.mv (.t 5))⟩]) (.cond (.t 11) (.seq (.seq (.reg [⟨(some 12), none, (.mv (.t 6))⟩]) (.cond (.t 12) (.seq 
  (.reg [⟨(some 4), none, (.mv (.k (.int .i64 0)))⟩]) .ret) .skip)) (.seq (.reg [⟨(some 4), none, (.mv (.k (.int .i64 (-1))))⟩]) .ret)) .skip)) (.seq (.seq 
  (.reg [⟨(some 13), none, (.mv (.t 6))⟩]) (.cond (.t 13) (.seq (.reg [⟨(some 4), none, (.mv (.k (.int .i64 1)))⟩]) .ret) .skip)) (.seq (.seq (.reg [⟨(some 14), none, (.mv (.t 0))⟩, 
  ⟨(some 15), none, (.mv (.t 1))⟩, ⟨(some 16), none, (.bin .lss (.t 14) (.t 15))⟩]) (.cond (.t 16) (.seq (.reg [⟨(some 4), none, (.mv (.k (.int .i64 (-1))))⟩]) .ret) .skip)) (.seq 
  (.seq (.reg [⟨(some 17), none, (.mv (.t 0))⟩, ⟨(some 18), none, (.mv (.t 1))⟩, ⟨(some 19), none, (.bin .gtr (.t 17) (.t 18))⟩]) (.cond (.t 19) (.seq 
  (.reg [⟨(some 4), none, (.mv (.k (.int .i64 1)))⟩]) .ret) .skip)) (.seq (.reg [⟨(some 4), none, (.mv (.k (.int .i64 0)))⟩]) .ret))))))))⟩
theorem c_cmp_Compare_uint64 : compF Try.prog ⟨some 67, some 66⟩ Try.f56 = some r_cmp_Compare_uint64 := by kernel_rfl
/-- tenancy/tenancyref01.Clip -/
def r_r01_Clip : RF :=
  ⟨31, [(.cell (some 3) 4), (.tmp 5)], (.seq (.reg [⟨(some 2), none, (.box (some 2) (.t 0))⟩, ⟨(some 4), none, (.new [(.int .u64 0), (.int .u64 0), (.int .i64 0)])⟩, 
  ⟨(some 5), none, (.mv (.k (.bool false)))⟩]) (.seq (.seq (.reg [⟨(some 8), none, (.mv (.t 1))⟩, ⟨(some 9), none, (.bin .lss (.t 8) (.k (.int .i64 0)))⟩, 
  ⟨(some 10), none, (.mv (.t 9))⟩, ⟨(some 11), (some (10, false)), (.mv (.t 1))⟩, ⟨(some 12), (some (10, false)), (.bin .gtr (.t 11) (.k (.int .i64 128)))⟩, 
  ⟨(some 13), none, (.pick (.t 10) (.k (.bool true)) (.t 12))⟩]) (.cond (.t 13) (.seq (.reg [⟨(some 14), none, (.bld [(.int .u64 0), (.int .u64 0), (.int .i64 0)] [])⟩, 
  ⟨none, none, (.st (some 3) (.t 4) (.t 14))⟩, ⟨(some 5), none, (.mv (.k (.bool false)))⟩]) .ret) .skip)) (.seq (.reg [⟨(some 15), none, (.bld [(.int .u64 0), (.int .u64 0)] [])⟩, 
  ⟨(some 6), none, (.new [(.int .u64 0), (.int .u64 0)])⟩, ⟨none, none, (.st (some 2) (.t 6) (.t 15))⟩]) (.seq (.seq (.reg [⟨(some 7), none, (.mv (.k (.int .i64 0)))⟩]) (.block 0 
  (.loop (.seq (.seq (.reg [⟨(some 16), none, (.mv (.t 7))⟩, ⟨(some 17), none, (.mv (.t 1))⟩, ⟨(some 18), none, (.bin .lss (.t 16) (.t 17))⟩]) (.cond (.t 18) .skip (.exit 0))) (.seq 
  (.block 1 (.seq (.reg [⟨(some 21), none, (.ld (some 2) (.t 2))⟩, ⟨(some 22), none, (.mv (.t 7))⟩, ⟨(some 23), none, (.call f_r01_bit [(.t 21), (.t 22)])⟩, 
  ⟨(some 24), none, (.eq false .i (.t 23) (.k (.int .u64 1)))⟩]) (.cond (.t 24) (.reg [⟨(some 25), none, (.ld (some 2) (.t 6))⟩, ⟨(some 26), none, (.mv (.t 7))⟩, 
  ⟨(some 27), none, (.call f_r01_with [(.t 25), (.t 26)])⟩, ⟨none, none, (.st (some 2) (.t 6) (.t 27))⟩]) .skip))) (.reg [⟨(some 19), none, (.mv (.t 7))⟩, 
  ⟨(some 20), none, (.bin .add (.t 19) (.k (.int .i64 1)))⟩, ⟨(some 7), none, (.mv (.t 20))⟩])))))) (.seq (.reg [⟨(some 28), none, (.ld (some 2) (.t 6))⟩, 
  ⟨(some 29), none, (.mv (.t 1))⟩, ⟨(some 30), none, (.bld [(.int .u64 0), (.int .u64 0), (.int .i64 0)] [(0, (2, (.t 28))), (2, (1, (.t 29)))])⟩, 
  ⟨none, none, (.st (some 3) (.t 4) (.t 30))⟩, ⟨(some 5), none, (.mv (.k (.bool true)))⟩]) .ret)))))⟩
theorem c_r01_Clip : compF Try.prog ⟨some 67, some 66⟩ Try.f57 = some r_r01_Clip := by kernel_rfl
/-- tenancy/tenancyref01.Has -/
def r_r01_Has : RF :=
  ⟨21, [(.tmp 4)], (.seq (.reg [⟨(some 2), none, (.box (some 3) (.t 0))⟩, ⟨(some 3), none, (.box (some 2) (.t 1))⟩, ⟨(some 4), none, (.mv (.k (.bool false)))⟩]) (.seq 
  (.reg [⟨(some 8), none, (.ld (some 2) (.t 3))⟩, ⟨(some 9), none, (.off 2 (.t 2))⟩, ⟨(some 10), none, (.ld none (.t 9))⟩, ⟨(some 11), none, (.call f_r01_Clip [(.t 8), (.t 10)])⟩, 
  ⟨(some 7), none, (.mv (.t 11))⟩, ⟨(some 12), none, (.ext 0 (.t 7))⟩, ⟨(some 13), none, (.ext 1 (.t 7))⟩, ⟨(some 5), none, (.new [(.int .u64 0), (.int .u64 0), (.int .i64 0)])⟩, 
  ⟨none, none, (.st (some 3) (.t 5) (.t 12))⟩, ⟨(some 6), none, (.mv (.t 13))⟩]) (.seq (.reg [⟨(some 14), none, (.ld (some 3) (.t 2))⟩, 
  ⟨(some 15), none, (.call f_r01_Sound [(.t 14)])⟩, ⟨(some 16), none, (.mv (.t 15))⟩, ⟨(some 17), (some (16, true)), (.ld (some 3) (.t 5))⟩, 
  ⟨(some 18), (some (16, true)), (.ld (some 3) (.t 2))⟩, 
  ⟨(some 19), (some (16, true)), (.eq false (.st (.sub 0 2 (.st (.one 0 .i (.one 1 .i .nil))) (.one 2 .i .nil))) (.t 17) (.t 18))⟩, 
  ⟨(some 20), none, (.pick (.t 16) (.t 19) (.k (.bool false)))⟩, ⟨(some 4), none, (.mv (.t 20))⟩]) .ret)))⟩
theorem c_r01_Has : compF Try.prog ⟨some 67, some 66⟩ Try.f58 = some r_r01_Has := by kernel_rfl
/-- tenancy/tenancyref01.bit -/
def r_r01_bit : RF :=
  ⟨21, [(.tmp 4)], (.seq (.reg [⟨(some 2), none, (.box (some 2) (.t 0))⟩, ⟨(some 4), none, (.mv (.k (.int .u64 0)))⟩]) (.seq (.seq (.reg [⟨(some 5), none, (.mv (.t 1))⟩, 
  ⟨(some 6), none, (.bin .lss (.t 5) (.k (.int .i64 64)))⟩]) (.cond (.t 6) (.seq (.reg [⟨(some 7), none, (.off 0 (.t 2))⟩, ⟨(some 8), none, (.ld none (.t 7))⟩, 
  ⟨(some 9), none, (.mv (.t 1))⟩, ⟨(some 10), none, (.bin .sub (.k (.int .i64 63)) (.t 9))⟩, ⟨(some 11), none, (.cvi .u64 (.t 10))⟩, ⟨(some 12), none, (.bin .shr (.t 8) (.t 11))⟩, 
  ⟨(some 13), none, (.bin .and (.t 12) (.k (.int .u64 1)))⟩, ⟨(some 4), none, (.mv (.t 13))⟩]) .ret) .skip)) (.seq (.reg [⟨(some 14), none, (.off 1 (.t 2))⟩, 
  ⟨(some 15), none, (.ld none (.t 14))⟩, ⟨(some 16), none, (.mv (.t 1))⟩, ⟨(some 17), none, (.bin .sub (.k (.int .i64 127)) (.t 16))⟩, ⟨(some 18), none, (.cvi .u64 (.t 17))⟩, 
  ⟨(some 19), none, (.bin .shr (.t 15) (.t 18))⟩, ⟨(some 20), none, (.bin .and (.t 19) (.k (.int .u64 1)))⟩, ⟨(some 4), none, (.mv (.t 20))⟩]) .ret)))⟩
theorem c_r01_bit : compF Try.prog ⟨some 67, some 66⟩ Try.f59 = some r_r01_bit := by kernel_rfl
/-- slices.Concat[[]tenancy/api.Prefix,tenancy/api.Prefix] -/
def r_slices_Concat_Prefix : RF :=
  ⟨36, [(.tmp 2)], (.seq (.reg [⟨(some 2), none, (.mv (.k .nils))⟩]) (.seq (.reg [⟨(some 3), none, (.mv (.k (.int .i64 0)))⟩]) (.seq (.seq (.reg [⟨(some 9), none, (.mv (.t 0))⟩, 
  ⟨(some 10), none, (.lenl (.t 9))⟩, ⟨(some 11), none, (.mv (.k (.int .i64 0)))⟩]) (.block 0 (.loop (.seq (.reg [⟨(some 12), none, (.bin .lss (.t 11) (.t 10))⟩]) (.seq 
  (.cond (.t 12) .skip (.exit 0)) (.seq (.block 1 (.seq (.reg [⟨(some 13), none, (.ixa 1 (.t 9) (.t 11))⟩, ⟨(some 14), none, (.ld none (.t 13))⟩, ⟨(some 5), none, (.mv (.t 14))⟩]) 
  (.seq (.reg [⟨(some 15), none, (.mv (.t 3))⟩, ⟨(some 16), none, (.mv (.t 5))⟩, ⟨(some 17), none, (.lenl (.t 16))⟩, ⟨(some 18), none, (.bin .add (.t 15) (.t 17))⟩, 
  ⟨(some 3), none, (.mv (.t 18))⟩]) (.seq (.reg [⟨(some 19), none, (.mv (.t 3))⟩, ⟨(some 20), none, (.bin .lss (.t 19) (.k (.int .i64 0)))⟩]) (.cond (.t 20) 
  (.reg [⟨(some 21), none, (.mki 9 (.k (.str (bts [108, 101, 110, 32, 111, 117, 116, 32, 111, 102, 32, 114, 97, 110, 103, 101]))))⟩, ⟨none, none, .fail⟩]) .skip))))) 
  (.reg [⟨(some 22), none, (.bin .add (.t 11) (.k (.int .i64 1)))⟩, ⟨(some 11), none, (.mv (.t 22))⟩]))))))) (.seq (.reg [⟨(some 23), none, (.mv (.t 3))⟩, 
  ⟨(some 24), none, (.call f_slices_Grow_Prefix [(.k .nils), (.t 23)])⟩, ⟨(some 6), none, (.mv (.t 24))⟩]) (.seq (.seq (.reg [⟨(some 25), none, (.mv (.t 0))⟩, 
  ⟨(some 26), none, (.lenl (.t 25))⟩, ⟨(some 27), none, (.mv (.k (.int .i64 0)))⟩]) (.block 2 (.loop (.seq (.reg [⟨(some 28), none, (.bin .lss (.t 27) (.t 26))⟩]) (.seq 
  (.cond (.t 28) .skip (.exit 2)) (.seq (.block 3 (.seq (.reg [⟨(some 29), none, (.ixa 1 (.t 25) (.t 27))⟩, ⟨(some 30), none, (.ld none (.t 29))⟩, ⟨(some 8), none, (.mv (.t 30))⟩]) 
  (.reg [⟨(some 31), none, (.mv (.t 6))⟩, ⟨(some 32), none, (.mv (.t 8))⟩, ⟨(some 33), none, (.app 3 24 (.t 31) (.t 32))⟩, ⟨(some 6), none, (.mv (.t 33))⟩]))) 
  (.reg [⟨(some 34), none, (.bin .add (.t 27) (.k (.int .i64 1)))⟩, ⟨(some 27), none, (.mv (.t 34))⟩]))))))) (.seq (.reg [⟨(some 35), none, (.mv (.t 6))⟩, 
  ⟨(some 2), none, (.mv (.t 35))⟩]) .ret))))))⟩
theorem c_slices_Concat_Prefix : compF Try.prog ⟨some 67, some 66⟩ Try.f60 = some r_slices_Concat_Prefix := by kernel_rfl
/-- tenancy/buddy.split -/
def r_buddy_split : RF :=
  ⟨32, [(.tmp 4)], (.seq (.reg [⟨(some 2), none, (.box (some 3) (.t 0))⟩, ⟨(some 3), none, (.box (some 3) (.t 1))⟩, ⟨(some 4), none, (.mv (.k .nils))⟩]) (.seq 
  (.reg [⟨(some 5), none, (.mv (.k .nils))⟩]) (.seq (.block 0 (.loop (.seq (.seq (.reg [⟨(some 9), none, (.ld (some 3) (.t 2))⟩, ⟨(some 10), none, (.ld (some 3) (.t 3))⟩, 
  ⟨(some 11), none, (.eq true (.st (.sub 0 2 (.st (.one 0 .i (.one 1 .i .nil))) (.one 2 .i .nil))) (.t 9) (.t 10))⟩]) (.cond (.t 11) .skip (.exit 0))) (.block 1 (.seq 
  (.reg [⟨(some 13), none, (.ld (some 3) (.t 2))⟩, ⟨(some 14), none, (.call f_addr_Halves [(.t 13)])⟩, ⟨(some 12), none, (.mv (.t 14))⟩, ⟨(some 15), none, (.ext 0 (.t 12))⟩, 
  ⟨(some 16), none, (.ext 1 (.t 12))⟩, ⟨(some 17), none, (.ext 2 (.t 12))⟩, ⟨(some 6), none, (.new [(.int .u64 0), (.int .u64 0), (.int .i64 0)])⟩, 
  ⟨(some 7), none, (.new [(.int .u64 0), (.int .u64 0), (.int .i64 0)])⟩, ⟨none, none, (.st (some 3) (.t 6) (.t 15))⟩, ⟨none, none, (.st (some 3) (.t 7) (.t 16))⟩, 
  ⟨(some 8), none, (.mv (.t 17))⟩]) (.seq (.reg [⟨(some 18), none, (.ld (some 3) (.t 6))⟩, ⟨(some 19), none, (.ld (some 3) (.t 3))⟩, 
  ⟨(some 20), none, (.call f_addr_Covers [(.t 18), (.t 19)])⟩]) (.cond (.t 20) (.seq (.reg [⟨(some 21), none, (.ld (some 3) (.t 6))⟩, ⟨none, none, (.st (some 3) (.t 2) (.t 21))⟩]) 
  (.reg [⟨(some 22), none, (.mv (.t 5))⟩, ⟨(some 23), none, (.ld (some 3) (.t 7))⟩, ⟨(some 24), none, (.bsl 3 1 [(.int .u64 0), (.int .u64 0), (.int .i64 0)] [(0, (3, (.t 23)))])⟩, 
  ⟨(some 25), none, (.app 3 24 (.t 22) (.t 24))⟩, ⟨(some 5), none, (.mv (.t 25))⟩])) (.seq (.reg [⟨(some 26), none, (.ld (some 3) (.t 7))⟩, 
  ⟨none, none, (.st (some 3) (.t 2) (.t 26))⟩]) (.reg [⟨(some 27), none, (.mv (.t 5))⟩, ⟨(some 28), none, (.ld (some 3) (.t 6))⟩, 
  ⟨(some 29), none, (.bsl 3 1 [(.int .u64 0), (.int .u64 0), (.int .i64 0)] [(0, (3, (.t 28)))])⟩, ⟨(some 30), none, (.app 3 24 (.t 27) (.t 29))⟩, 
  ⟨(some 5), none, (.mv (.t 30))⟩]))))))))) (.seq (.reg [⟨(some 31), none, (.mv (.t 5))⟩, ⟨(some 4), none, (.mv (.t 31))⟩]) .ret))))⟩
theorem c_buddy_split : compF Try.prog ⟨some 67, some 66⟩ Try.f61 = some r_buddy_split := by kernel_rfl
/-- tenancy/tenancyref01.Halves -/
def r_r01_Halves : RF :=
  ⟨30, [(.cell (some 3) 2), (.cell (some 3) 3), (.tmp 4)], (.seq (.reg [⟨(some 1), none, (.box (some 3) (.t 0))⟩, 
  ⟨(some 2), none, (.new [(.int .u64 0), (.int .u64 0), (.int .i64 0)])⟩, ⟨(some 3), none, (.new [(.int .u64 0), (.int .u64 0), (.int .i64 0)])⟩, 
  ⟨(some 4), none, (.mv (.k (.bool false)))⟩]) (.seq (.seq (.reg [⟨(some 5), none, (.ld (some 3) (.t 1))⟩, ⟨(some 6), none, (.call f_r01_Sound [(.t 5)])⟩, 
  ⟨(some 7), none, (.un .not (.t 6))⟩, ⟨(some 8), none, (.mv (.t 7))⟩, ⟨(some 9), (some (8, false)), (.off 2 (.t 1))⟩, ⟨(some 10), (some (8, false)), (.ld none (.t 9))⟩, 
  ⟨(some 11), (some (8, false)), (.eq false .i (.t 10) (.k (.int .i64 128)))⟩, ⟨(some 12), none, (.pick (.t 8) (.k (.bool true)) (.t 11))⟩]) (.cond (.t 12) (.seq 
  (.reg [⟨(some 13), none, (.bld [(.int .u64 0), (.int .u64 0), (.int .i64 0)] [])⟩, ⟨(some 14), none, (.bld [(.int .u64 0), (.int .u64 0), (.int .i64 0)] [])⟩, 
  ⟨none, none, (.st (some 3) (.t 2) (.t 13))⟩, ⟨none, none, (.st (some 3) (.t 3) (.t 14))⟩, ⟨(some 4), none, (.mv (.k (.bool false)))⟩]) .ret) .skip)) (.seq 
  (.drw 0 [⟨⟨(some 15), none, (.off 0 (.t 1))⟩, .pure, [], []⟩, ⟨⟨(some 16), none, (.ld (some 2) (.t 15))⟩, .ld, [], []⟩, ⟨⟨(some 17), none, (.off 2 (.t 1))⟩, .pure, [1], []⟩, 
  ⟨⟨(some 18), none, (.ld none (.t 17))⟩, .ld, [], []⟩, ⟨⟨(some 19), none, (.bin .add (.t 18) (.k (.int .i64 1)))⟩, .pure, [1], []⟩, 
  ⟨⟨(some 20), none, (.bld [(.int .u64 0), (.int .u64 0), (.int .i64 0)] [(0, (2, (.t 16))), (2, (1, (.t 19)))])⟩, .pure, [], []⟩, 
  ⟨⟨(some 21), none, (.off 0 (.t 1))⟩, .pure, [1, 3], []⟩, ⟨⟨(some 22), none, (.ld (some 2) (.t 21))⟩, .ld, [], []⟩, ⟨⟨(some 23), none, (.off 2 (.t 1))⟩, .pure, [1, 3, 7], []⟩, 
  ⟨⟨(some 24), none, (.ld none (.t 23))⟩, .ld, [], []⟩, ⟨⟨(some 25), none, (.call f_r01_with [(.t 22), (.t 24)])⟩, .eff, [1, 3], []⟩, 
  ⟨⟨(some 26), none, (.off 2 (.t 1))⟩, .pure, [1, 3, 7, 9], []⟩, ⟨⟨(some 27), none, (.ld none (.t 26))⟩, .ld, [10], []⟩, 
  ⟨⟨(some 28), none, (.bin .add (.t 27) (.k (.int .i64 1)))⟩, .pure, [1, 3, 7, 9], []⟩, 
  ⟨⟨(some 29), none, (.bld [(.int .u64 0), (.int .u64 0), (.int .i64 0)] [(0, (2, (.t 25))), (2, (1, (.t 28)))])⟩, .pure, [1, 3], []⟩, 
  ⟨⟨none, none, (.st (some 3) (.t 2) (.t 20))⟩, .eff, [12], []⟩, ⟨⟨none, none, (.st (some 3) (.t 3) (.t 29))⟩, .eff, [], []⟩, 
  ⟨⟨(some 4), none, (.mv (.k (.bool true)))⟩, .pure, [], []⟩]) .ret)))⟩
theorem c_r01_Halves : compF Try.prog ⟨some 67, some 66⟩ Try.f62 = some r_r01_Halves := by kernel_rfl
/-- tenancy/addr.Up -/
def r_addr_Up : RF :=
  ⟨33, [(.cell (some 2) 4)], (.seq (.reg [⟨(some 2), none, (.box (some 2) (.t 0))⟩, ⟨(some 4), none, (.new [(.int .u64 0), (.int .u64 0)])⟩]) (.seq (.block 0 (.seq 
  (.reg [⟨(some 6), none, (.mv (.t 1))⟩, ⟨(some 7), none, (.bin .leq (.t 6) (.k (.int .i64 0)))⟩, ⟨(some 5), none, (.mv (.t 7))⟩]) (.cond (.t 5) (.seq 
  (.reg [⟨(some 8), none, (.ld (some 2) (.t 2))⟩, ⟨none, none, (.st (some 2) (.t 4) (.t 8))⟩]) .ret) (.seq (.reg [⟨(some 10), none, (.mv (.t 1))⟩, 
  ⟨(some 11), none, (.bin .geq (.t 10) (.k (.int .i64 64)))⟩, ⟨(some 9), none, (.mv (.t 11))⟩]) (.cond (.t 9) (.seq (.reg [⟨(some 12), none, (.off 1 (.t 2))⟩, 
  ⟨(some 13), none, (.ld none (.t 12))⟩, ⟨(some 14), none, (.mv (.t 1))⟩, ⟨(some 15), none, (.bin .sub (.t 14) (.k (.int .i64 64)))⟩, ⟨(some 16), none, (.bin .shl (.t 13) (.t 15))⟩, 
  ⟨(some 17), none, (.bld [(.int .u64 0), (.int .u64 0)] [(0, (1, (.t 16)))])⟩, ⟨none, none, (.st (some 2) (.t 4) (.t 17))⟩]) .ret) .skip))))) (.seq 
  (.drw 0 [⟨⟨(some 18), none, (.off 0 (.t 2))⟩, .pure, [], []⟩, ⟨⟨(some 19), none, (.ld none (.t 18))⟩, .ld, [], []⟩, ⟨⟨(some 20), none, (.mv (.t 1))⟩, .pure, [1], []⟩, 
  ⟨⟨(some 21), none, (.bin .shl (.t 19) (.t 20))⟩, .pure, [], []⟩, ⟨⟨(some 22), none, (.off 1 (.t 2))⟩, .pure, [1], []⟩, ⟨⟨(some 23), none, (.ld none (.t 22))⟩, .ld, [], []⟩, 
  ⟨⟨(some 24), none, (.mv (.t 1))⟩, .pure, [1, 5], []⟩, ⟨⟨(some 25), none, (.bin .sub (.k (.int .i64 64)) (.t 24))⟩, .pure, [1, 5], []⟩, 
  ⟨⟨(some 26), none, (.bin .shr (.t 23) (.t 25))⟩, .pure, [1], []⟩, ⟨⟨(some 27), none, (.bin .or (.t 21) (.t 26))⟩, .pure, [], []⟩, 
  ⟨⟨(some 28), none, (.off 1 (.t 2))⟩, .pure, [1, 5], []⟩, ⟨⟨(some 29), none, (.ld none (.t 28))⟩, .ld, [], []⟩, ⟨⟨(some 30), none, (.mv (.t 1))⟩, .pure, [1, 5, 11], []⟩, 
  ⟨⟨(some 31), none, (.bin .shl (.t 29) (.t 30))⟩, .pure, [1, 5], []⟩, 
  ⟨⟨(some 32), none, (.bld [(.int .u64 0), (.int .u64 0)] [(0, (1, (.t 27))), (1, (1, (.t 31)))])⟩, .pure, [], []⟩, 
  ⟨⟨none, none, (.st (some 2) (.t 4) (.t 32))⟩, .eff, [], []⟩]) .ret)))⟩
theorem c_addr_Up : compF Try.prog ⟨some 67, some 66⟩ Try.f63 = some r_addr_Up := by kernel_rfl
/-- slices.pdqsortCmpFunc[tenancy/api.Prefix] -/
def r_slices_pdqsortCmpFunc_Prefix : RF :=
  ⟨148, [], (.seq (.reg [⟨(some 10), none, (.mv (.k (.bool true)))⟩]) (.seq (.reg [⟨(some 11), none, (.mv (.k (.bool true)))⟩]) (.block 0 (.loop (.block 1 (.seq 
  (.reg [⟨(some 21), none, (.mv (.t 2))⟩, ⟨(some 22), none, (.mv (.t 1))⟩, ⟨(some 23), none, (.bin .sub (.t 21) (.t 22))⟩, ⟨(some 12), none, (.mv (.t 23))⟩]) (.seq (.seq 
  (.reg [⟨(some 24), none, (.mv (.t 12))⟩, ⟨(some 25), none, (.bin .leq (.t 24) (.k (.int .i64 12)))⟩]) (.cond (.t 25) (.seq (.reg [⟨(some 26), none, (.mv (.t 0))⟩, 
  ⟨(some 27), none, (.mv (.t 1))⟩, ⟨(some 28), none, (.mv (.t 2))⟩, ⟨(some 29), none, (.mv (.t 4))⟩, 
  ⟨(some 30), none, (.call f_slices_insertionSortCmpFunc_Prefix [(.t 26), (.t 27), (.t 28), (.t 29)])⟩]) .ret) .skip)) (.seq (.seq (.reg [⟨(some 31), none, (.mv (.t 3))⟩, 
  ⟨(some 32), none, (.eq false .i (.t 31) (.k (.int .i64 0)))⟩]) (.cond (.t 32) (.seq (.reg [⟨(some 33), none, (.mv (.t 0))⟩, ⟨(some 34), none, (.mv (.t 1))⟩, 
  ⟨(some 35), none, (.mv (.t 2))⟩, ⟨(some 36), none, (.mv (.t 4))⟩, ⟨(some 37), none, (.call f_slices_heapSortCmpFunc_Prefix [(.t 33), (.t 34), (.t 35), (.t 36)])⟩]) .ret) .skip)) 
  (.seq (.seq (.reg [⟨(some 38), none, (.mv (.t 10))⟩, ⟨(some 39), none, (.un .not (.t 38))⟩]) (.cond (.t 39) (.seq (.reg [⟨(some 40), none, (.mv (.t 0))⟩, 
  ⟨(some 41), none, (.mv (.t 1))⟩, ⟨(some 42), none, (.mv (.t 2))⟩, ⟨(some 43), none, (.mv (.t 4))⟩, 
  ⟨(some 44), none, (.call f_slices_breakPatternsCmpFunc_Prefix [(.t 40), (.t 41), (.t 42), (.t 43)])⟩]) (.reg [⟨(some 45), none, (.mv (.t 3))⟩, 
  ⟨(some 46), none, (.bin .sub (.t 45) (.k (.int .i64 1)))⟩, ⟨(some 3), none, (.mv (.t 46))⟩])) .skip)) (.seq (.reg [⟨(some 48), none, (.mv (.t 0))⟩, 
  ⟨(some 49), none, (.mv (.t 1))⟩, ⟨(some 50), none, (.mv (.t 2))⟩, ⟨(some 51), none, (.mv (.t 4))⟩, 
  ⟨(some 52), none, (.call f_slices_choosePivotCmpFunc_Prefix [(.t 48), (.t 49), (.t 50), (.t 51)])⟩, ⟨(some 47), none, (.mv (.t 52))⟩, ⟨(some 53), none, (.ext 0 (.t 47))⟩, 
  ⟨(some 54), none, (.ext 1 (.t 47))⟩, ⟨(some 13), none, (.mv (.t 53))⟩, ⟨(some 14), none, (.mv (.t 54))⟩]) (.seq (.seq (.reg [⟨(some 55), none, (.mv (.t 14))⟩, 
  ⟨(some 56), none, (.eq false .i (.t 55) (.k (.int .i64 2)))⟩]) (.cond (.t 56) (.seq (.reg [⟨(some 57), none, (.mv (.t 0))⟩, ⟨(some 58), none, (.mv (.t 1))⟩, 
  ⟨(some 59), none, (.mv (.t 2))⟩, ⟨(some 60), none, (.mv (.t 4))⟩, ⟨(some 61), none, (.call f_slices_reverseRangeCmpFunc_Prefix [(.t 57), (.t 58), (.t 59), (.t 60)])⟩]) (.seq 
  (.reg [⟨(some 62), none, (.mv (.t 2))⟩, ⟨(some 63), none, (.bin .sub (.t 62) (.k (.int .i64 1)))⟩, ⟨(some 64), none, (.mv (.t 13))⟩, ⟨(some 65), none, (.mv (.t 1))⟩, 
  ⟨(some 66), none, (.bin .sub (.t 64) (.t 65))⟩, ⟨(some 67), none, (.bin .sub (.t 63) (.t 66))⟩, ⟨(some 13), none, (.mv (.t 67))⟩]) 
  (.reg [⟨(some 14), none, (.mv (.k (.int .i64 1)))⟩]))) .skip)) (.seq (.seq (.reg [⟨(some 68), none, (.mv (.t 10))⟩, ⟨(some 69), none, (.mv (.t 68))⟩, 
  ⟨(some 70), (some (69, true)), (.mv (.t 11))⟩, ⟨(some 71), none, (.pick (.t 69) (.t 70) (.k (.bool false)))⟩, ⟨(some 72), none, (.mv (.t 71))⟩, 
  ⟨(some 73), (some (72, true)), (.mv (.t 14))⟩, ⟨(some 74), (some (72, true)), (.eq false .i (.t 73) (.k (.int .i64 1)))⟩, 
  ⟨(some 75), none, (.pick (.t 72) (.t 74) (.k (.bool false)))⟩]) (.cond (.t 75) (.seq (.reg [⟨(some 76), none, (.mv (.t 0))⟩, ⟨(some 77), none, (.mv (.t 1))⟩, 
  ⟨(some 78), none, (.mv (.t 2))⟩, ⟨(some 79), none, (.mv (.t 4))⟩, ⟨(some 80), none, (.call f_slices_partialInsertionSortCmpFunc_Prefix [(.t 76), (.t 77), (.t 78), (.t 79)])⟩]) 
  (.cond (.t 80) .ret .skip)) .skip)) (.seq (.seq (.drw 0 [⟨⟨(some 81), none, (.mv (.t 1))⟩, .pure, [], []⟩, 
  ⟨⟨(some 82), none, (.bin .gtr (.t 81) (.k (.int .i64 0)))⟩, .pure, [], []⟩, ⟨⟨(some 83), none, (.mv (.t 82))⟩, .pure, [], []⟩, 
  ⟨⟨(some 84), (some (83, true)), (.mv (.t 4))⟩, .pure, [], []⟩, ⟨⟨(some 85), (some (83, true)), (.mv (.t 0))⟩, .pure, [], []⟩, 
  ⟨⟨(some 86), (some (83, true)), (.mv (.t 1))⟩, .pure, [], []⟩, ⟨⟨(some 87), (some (83, true)), (.bin .sub (.t 86) (.k (.int .i64 1)))⟩, .pure, [], []⟩, 
  ⟨⟨(some 88), (some (83, true)), (.ixa 3 (.t 85) (.t 87))⟩, .pure, [], []⟩, ⟨⟨(some 89), (some (83, true)), (.ld (some 3) (.t 88))⟩, .ld, [], []⟩, 
  ⟨⟨(some 90), (some (83, true)), (.mv (.t 0))⟩, .pure, [8], []⟩, ⟨⟨(some 91), (some (83, true)), (.mv (.t 13))⟩, .pure, [8], []⟩, 
  ⟨⟨(some 92), (some (83, true)), (.ixa 3 (.t 90) (.t 91))⟩, .pure, [8], []⟩, ⟨⟨(some 93), (some (83, true)), (.ld (some 3) (.t 92))⟩, .ld, [], []⟩, 
  ⟨⟨(some 94), (some (83, true)), (.calld (.t 84) [(.t 89), (.t 93)])⟩, .eff, [], []⟩, ⟨⟨(some 95), (some (83, true)), (.bin .lss (.t 94) (.k (.int .i64 0)))⟩, .pure, [], []⟩, 
  ⟨⟨(some 96), (some (83, true)), (.un .not (.t 95))⟩, .pure, [], []⟩, ⟨⟨(some 97), none, (.pick (.t 83) (.t 96) (.k (.bool false)))⟩, .pure, [], []⟩]) (.cond (.t 97) (.seq 
  (.reg [⟨(some 98), none, (.mv (.t 0))⟩, ⟨(some 99), none, (.mv (.t 1))⟩, ⟨(some 100), none, (.mv (.t 2))⟩, ⟨(some 101), none, (.mv (.t 13))⟩, ⟨(some 102), none, (.mv (.t 4))⟩, 
  ⟨(some 103), none, (.call f_slices_partitionEqualCmpFunc_Prefix [(.t 98), (.t 99), (.t 100), (.t 101), (.t 102)])⟩, ⟨(some 15), none, (.mv (.t 103))⟩]) (.seq 
  (.reg [⟨(some 104), none, (.mv (.t 15))⟩, ⟨(some 1), none, (.mv (.t 104))⟩]) (.exit 1))) .skip)) (.seq (.reg [⟨(some 106), none, (.mv (.t 0))⟩, ⟨(some 107), none, (.mv (.t 1))⟩, 
  ⟨(some 108), none, (.mv (.t 2))⟩, ⟨(some 109), none, (.mv (.t 13))⟩, ⟨(some 110), none, (.mv (.t 4))⟩, 
  ⟨(some 111), none, (.call f_slices_partitionCmpFunc_Prefix [(.t 106), (.t 107), (.t 108), (.t 109), (.t 110)])⟩, ⟨(some 105), none, (.mv (.t 111))⟩, 
  ⟨(some 112), none, (.ext 0 (.t 105))⟩, ⟨(some 113), none, (.ext 1 (.t 105))⟩, ⟨(some 16), none, (.mv (.t 112))⟩, ⟨(some 17), none, (.mv (.t 113))⟩]) (.seq 
  (.reg [⟨(some 114), none, (.mv (.t 17))⟩, ⟨(some 11), none, (.mv (.t 114))⟩]) (.seq (.reg [⟨(some 115), none, (.mv (.t 16))⟩, ⟨(some 116), none, (.mv (.t 1))⟩, 
  ⟨(some 117), none, (.bin .sub (.t 115) (.t 116))⟩, ⟨(some 118), none, (.mv (.t 2))⟩, ⟨(some 119), none, (.mv (.t 16))⟩, ⟨(some 120), none, (.bin .sub (.t 118) (.t 119))⟩, 
  ⟨(some 18), none, (.mv (.t 117))⟩, ⟨(some 19), none, (.mv (.t 120))⟩]) (.seq (.reg [⟨(some 121), none, (.mv (.t 12))⟩, ⟨(some 122), none, (.bin .quo (.t 121) (.k (.int .i64 8)))⟩, 
  ⟨(some 20), none, (.mv (.t 122))⟩]) (.seq (.reg [⟨(some 123), none, (.mv (.t 18))⟩, ⟨(some 124), none, (.mv (.t 19))⟩, ⟨(some 125), none, (.bin .lss (.t 123) (.t 124))⟩]) 
  (.cond (.t 125) (.seq (.reg [⟨(some 126), none, (.mv (.t 18))⟩, ⟨(some 127), none, (.mv (.t 20))⟩, ⟨(some 128), none, (.bin .geq (.t 126) (.t 127))⟩, 
  ⟨(some 10), none, (.mv (.t 128))⟩]) (.seq (.reg [⟨(some 129), none, (.mv (.t 0))⟩, ⟨(some 130), none, (.mv (.t 1))⟩, ⟨(some 131), none, (.mv (.t 16))⟩, 
  ⟨(some 132), none, (.mv (.t 3))⟩, ⟨(some 133), none, (.mv (.t 4))⟩, ⟨(some 134), none, (.call f_slices_pdqsortCmpFunc_Prefix [(.t 129), (.t 130), (.t 131), (.t 132), (.t 133)])⟩]) 
  (.reg [⟨(some 135), none, (.mv (.t 16))⟩, ⟨(some 136), none, (.bin .add (.t 135) (.k (.int .i64 1)))⟩, ⟨(some 1), none, (.mv (.t 136))⟩]))) (.seq 
  (.reg [⟨(some 137), none, (.mv (.t 19))⟩, ⟨(some 138), none, (.mv (.t 20))⟩, ⟨(some 139), none, (.bin .geq (.t 137) (.t 138))⟩, ⟨(some 10), none, (.mv (.t 139))⟩]) (.seq 
  (.reg [⟨(some 140), none, (.mv (.t 0))⟩, ⟨(some 141), none, (.mv (.t 16))⟩, ⟨(some 142), none, (.bin .add (.t 141) (.k (.int .i64 1)))⟩, ⟨(some 143), none, (.mv (.t 2))⟩, 
  ⟨(some 144), none, (.mv (.t 3))⟩, ⟨(some 145), none, (.mv (.t 4))⟩, ⟨(some 146), none, (.call f_slices_pdqsortCmpFunc_Prefix [(.t 140), (.t 142), (.t 143), (.t 144), (.t 145)])⟩]) 
  (.reg [⟨(some 147), none, (.mv (.t 16))⟩, ⟨(some 2), none, (.mv (.t 147))⟩]))))))))))))))))))))))⟩
theorem c_slices_pdqsortCmpFunc_Prefix : compF Try.prog ⟨some 67, some 66⟩ Try.f64 = some r_slices_pdqsortCmpFunc_Prefix := by kernel_rfl
/-- math/bits.Len -/
def r_bits_Len : RF :=
  ⟨8, [(.tmp 2)], (.seq (.reg [⟨(some 2), none, (.mv (.k (.int .i64 0)))⟩]) (.seq (.cond (.k (.bool false)) (.seq (.reg [⟨(some 3), none, (.mv (.t 0))⟩, 
  ⟨(some 4), none, (.cvi .u32 (.t 3))⟩, ⟨(some 5), none, (.call f_bits_Len32 [(.t 4)])⟩, ⟨(some 2), none, (.mv (.t 5))⟩]) .ret) .skip) (.seq (.reg [⟨(some 6), none, (.mv (.t 0))⟩, 
  ⟨(some 7), none, (.call f_bits_Len64 [(.t 6)])⟩, ⟨(some 2), none, (.mv (.t 7))⟩]) .ret)))⟩
theorem c_bits_Len : compF Try.prog ⟨some 67, some 66⟩ Try.f65 = some r_bits_Len := by kernel_rfl
/-- cmp.isNaN[uint64] -/
def r_cmp_isNaN_uint64 : RF :=
  ⟨6, [(.tmp 2)], (.seq (.reg [⟨(some 2), none, (.mv (.k (.bool false)))⟩]) (.seq (.reg [⟨(some 3), none, (.mv (.t 0))⟩, ⟨(some 4), none, (.mv (.t 0))⟩, 
  ⟨(some 5), none, (.eq true .i (.t 3) (.t 4))⟩, ⟨(some 2), none, (.mv (.t 5))⟩]) .ret))⟩
theorem c_cmp_isNaN_uint64 : compF Try.prog ⟨some 67, some 66⟩ Try.f68 = some r_cmp_isNaN_uint64 := by kernel_rfl
/-- tenancy/tenancyref01.with -/
def r_r01_with : RF :=
  ⟨24, [(.cell (some 2) 4)], (.seq (.reg [⟨(some 2), none, (.box (some 2) (.t 0))⟩, ⟨(some 4), none, (.new [(.int .u64 0), (.int .u64 0)])⟩]) (.seq (.seq 
  (.reg [⟨(some 5), none, (.mv (.t 1))⟩, ⟨(some 6), none, (.bin .lss (.t 5) (.k (.int .i64 64)))⟩]) (.cond (.t 6) (.reg [⟨(some 7), none, (.off 0 (.t 2))⟩, 
  ⟨(some 8), none, (.ld none (.t 7))⟩, ⟨(some 9), none, (.mv (.t 1))⟩, ⟨(some 10), none, (.bin .sub (.k (.int .i64 63)) (.t 9))⟩, ⟨(some 11), none, (.cvi .u64 (.t 10))⟩, 
  ⟨(some 12), none, (.bin .shl (.k (.int .u64 1)) (.t 11))⟩, ⟨(some 13), none, (.bin .or (.t 8) (.t 12))⟩, ⟨(some 14), none, (.off 0 (.t 2))⟩, 
  ⟨none, none, (.st none (.t 14) (.t 13))⟩]) (.reg [⟨(some 15), none, (.off 1 (.t 2))⟩, ⟨(some 16), none, (.ld none (.t 15))⟩, ⟨(some 17), none, (.mv (.t 1))⟩, 
  ⟨(some 18), none, (.bin .sub (.k (.int .i64 127)) (.t 17))⟩, ⟨(some 19), none, (.cvi .u64 (.t 18))⟩, ⟨(some 20), none, (.bin .shl (.k (.int .u64 1)) (.t 19))⟩, 
  ⟨(some 21), none, (.bin .or (.t 16) (.t 20))⟩, ⟨(some 22), none, (.off 1 (.t 2))⟩, ⟨none, none, (.st none (.t 22) (.t 21))⟩]))) (.seq 
  (.reg [⟨(some 23), none, (.ld (some 2) (.t 2))⟩, ⟨none, none, (.st (some 2) (.t 4) (.t 23))⟩]) .ret)))⟩
theorem c_r01_with : compF Try.prog ⟨some 67, some 66⟩ Try.f69 = some r_r01_with := by kernel_rfl
/-- slices.Grow[[]tenancy/api.Prefix,tenancy/api.Prefix] -/
def r_slices_Grow_Prefix : RF :=
  ⟨27, [(.tmp 4)], (.seq (.reg [⟨(some 4), none, (.mv (.k .nils))⟩]) (.seq (.seq (.reg [⟨(some 5), none, (.mv (.t 1))⟩, ⟨(some 6), none, (.bin .lss (.t 5) (.k (.int .i64 0)))⟩]) 
  (.cond (.t 6) (.reg [⟨(some 7), none, (.mki 9 (.k (.str (bts [99, 97, 110, 110, 111, 116, 32, 98, 101, 32, 110, 101, 103, 97, 116, 105, 118, 101]))))⟩, 
  ⟨none, none, .fail⟩]) .skip)) (.seq (.seq (.reg [⟨(some 8), none, (.mv (.t 1))⟩, ⟨(some 9), none, (.mv (.t 0))⟩, ⟨(some 10), none, (.capl (.t 9))⟩, 
  ⟨(some 11), none, (.mv (.t 0))⟩, ⟨(some 12), none, (.lenl (.t 11))⟩, ⟨(some 13), none, (.bin .sub (.t 10) (.t 12))⟩, ⟨(some 14), none, (.bin .sub (.t 8) (.t 13))⟩, 
  ⟨(some 1), none, (.mv (.t 14))⟩]) (.seq (.reg [⟨(some 15), none, (.mv (.t 1))⟩, ⟨(some 16), none, (.bin .gtr (.t 15) (.k (.int .i64 0)))⟩]) (.cond (.t 16) 
  (.reg [⟨(some 17), none, (.mv (.t 0))⟩, ⟨(some 18), none, (.mv (.t 0))⟩, ⟨(some 19), none, (.capl (.t 18))⟩, ⟨(some 20), none, (.slc 3 (.t 17) none (some (.t 19)) none)⟩, 
  ⟨(some 21), none, (.mv (.t 1))⟩, ⟨(some 22), none, (.appz 3 24 [(.int .u64 0), (.int .u64 0), (.int .i64 0)] (.t 20) (.t 21))⟩, ⟨(some 23), none, (.mv (.t 0))⟩, 
  ⟨(some 24), none, (.lenl (.t 23))⟩, ⟨(some 25), none, (.slc 3 (.t 22) none (some (.t 24)) none)⟩, ⟨(some 0), none, (.mv (.t 25))⟩]) .skip))) (.seq 
  (.reg [⟨(some 26), none, (.mv (.t 0))⟩, ⟨(some 4), none, (.mv (.t 26))⟩]) .ret))))⟩
theorem c_slices_Grow_Prefix : compF Try.prog ⟨some 67, some 66⟩ Try.f70 = some r_slices_Grow_Prefix := by kernel_rfl
/-- slices.insertionSortCmpFunc[tenancy/api.Prefix] -/
def r_slices_insertionSortCmpFunc_Prefix : RF :=
  ⟨53, [], (.seq (.reg [⟨(some 10), none, (.mv (.t 1))⟩, ⟨(some 11), none, (.bin .add (.t 10) (.k (.int .i64 1)))⟩, ⟨(some 8), none, (.mv (.t 11))⟩]) (.block 0 (.loop (.seq (.seq 
  (.reg [⟨(some 12), none, (.mv (.t 8))⟩, ⟨(some 13), none, (.mv (.t 2))⟩, ⟨(some 14), none, (.bin .lss (.t 12) (.t 13))⟩]) (.cond (.t 14) .skip (.exit 0))) (.seq (.block 1 (.seq 
  (.reg [⟨(some 17), none, (.mv (.t 8))⟩, ⟨(some 9), none, (.mv (.t 17))⟩]) (.block 2 (.loop (.seq (.seq (.drw 0 [⟨⟨(some 18), none, (.mv (.t 9))⟩, .pure, [], []⟩, 
  ⟨⟨(some 19), none, (.mv (.t 1))⟩, .pure, [], []⟩, ⟨⟨(some 20), none, (.bin .gtr (.t 18) (.t 19))⟩, .pure, [], []⟩, ⟨⟨(some 21), none, (.mv (.t 20))⟩, .pure, [], []⟩, 
  ⟨⟨(some 22), (some (21, true)), (.mv (.t 3))⟩, .pure, [], []⟩, ⟨⟨(some 23), (some (21, true)), (.mv (.t 0))⟩, .pure, [], []⟩, 
  ⟨⟨(some 24), (some (21, true)), (.mv (.t 9))⟩, .pure, [], []⟩, ⟨⟨(some 25), (some (21, true)), (.ixa 3 (.t 23) (.t 24))⟩, .pure, [], []⟩, 
  ⟨⟨(some 26), (some (21, true)), (.ld (some 3) (.t 25))⟩, .ld, [], []⟩, ⟨⟨(some 27), (some (21, true)), (.mv (.t 0))⟩, .pure, [8], []⟩, 
  ⟨⟨(some 28), (some (21, true)), (.mv (.t 9))⟩, .pure, [8], []⟩, ⟨⟨(some 29), (some (21, true)), (.bin .sub (.t 28) (.k (.int .i64 1)))⟩, .pure, [8], []⟩, 
  ⟨⟨(some 30), (some (21, true)), (.ixa 3 (.t 27) (.t 29))⟩, .pure, [8], []⟩, ⟨⟨(some 31), (some (21, true)), (.ld (some 3) (.t 30))⟩, .ld, [], []⟩, 
  ⟨⟨(some 32), (some (21, true)), (.calld (.t 22) [(.t 26), (.t 31)])⟩, .eff, [], []⟩, ⟨⟨(some 33), (some (21, true)), (.bin .lss (.t 32) (.k (.int .i64 0)))⟩, .pure, [], []⟩, 
  ⟨⟨(some 34), none, (.pick (.t 21) (.t 33) (.k (.bool false)))⟩, .pure, [], []⟩]) (.cond (.t 34) .skip (.exit 2))) (.seq (.block 3 
  (.drw 0 [⟨⟨(some 37), none, (.mv (.t 0))⟩, .pure, [], []⟩, ⟨⟨(some 38), none, (.mv (.t 9))⟩, .pure, [], []⟩, ⟨⟨(some 39), none, (.mv (.t 0))⟩, .pure, [], []⟩, 
  ⟨⟨(some 40), none, (.mv (.t 9))⟩, .pure, [], []⟩, ⟨⟨(some 41), none, (.bin .sub (.t 40) (.k (.int .i64 1)))⟩, .pure, [], []⟩, ⟨⟨(some 42), none, (.mv (.t 0))⟩, .pure, [], []⟩, 
  ⟨⟨(some 43), none, (.mv (.t 9))⟩, .pure, [], []⟩, ⟨⟨(some 44), none, (.bin .sub (.t 43) (.k (.int .i64 1)))⟩, .pure, [], []⟩, 
  ⟨⟨(some 45), none, (.ixa 3 (.t 42) (.t 44))⟩, .pure, [], []⟩, ⟨⟨(some 46), none, (.ld (some 3) (.t 45))⟩, .ld, [], []⟩, ⟨⟨(some 47), none, (.mv (.t 0))⟩, .pure, [9], []⟩, 
  ⟨⟨(some 48), none, (.mv (.t 9))⟩, .pure, [9], []⟩, ⟨⟨(some 49), none, (.ixa 3 (.t 47) (.t 48))⟩, .pure, [9], []⟩, ⟨⟨(some 50), none, (.ld (some 3) (.t 49))⟩, .ld, [], []⟩, 
  ⟨⟨(some 51), none, (.ixa 3 (.t 37) (.t 38))⟩, .pure, [], []⟩, ⟨⟨none, none, (.st (some 3) (.t 51) (.t 46))⟩, .eff, [], []⟩, 
  ⟨⟨(some 52), none, (.ixa 3 (.t 39) (.t 41))⟩, .pure, [], []⟩, ⟨⟨none, none, (.st (some 3) (.t 52) (.t 50))⟩, .eff, [], []⟩])) (.reg [⟨(some 35), none, (.mv (.t 9))⟩, 
  ⟨(some 36), none, (.bin .sub (.t 35) (.k (.int .i64 1)))⟩, ⟨(some 9), none, (.mv (.t 36))⟩]))))))) (.reg [⟨(some 15), none, (.mv (.t 8))⟩, 
  ⟨(some 16), none, (.bin .add (.t 15) (.k (.int .i64 1)))⟩, ⟨(some 8), none, (.mv (.t 16))⟩]))))))⟩
theorem c_slices_insertionSortCmpFunc_Prefix : compF Try.prog ⟨some 67, some 66⟩ Try.f71 = some r_slices_insertionSortCmpFunc_Prefix := by kernel_rfl
/-- slices.heapSortCmpFunc[tenancy/api.Prefix] -/
def r_slices_heapSortCmpFunc_Prefix : RF :=
  ⟨60, [], (.seq (.reg [⟨(some 13), none, (.mv (.t 1))⟩, ⟨(some 8), none, (.mv (.t 13))⟩]) (.seq (.reg [⟨(some 9), none, (.mv (.k (.int .i64 0)))⟩]) (.seq 
  (.reg [⟨(some 14), none, (.mv (.t 2))⟩, ⟨(some 15), none, (.mv (.t 1))⟩, ⟨(some 16), none, (.bin .sub (.t 14) (.t 15))⟩, ⟨(some 10), none, (.mv (.t 16))⟩]) (.seq (.seq 
  (.reg [⟨(some 17), none, (.mv (.t 10))⟩, ⟨(some 18), none, (.bin .sub (.t 17) (.k (.int .i64 1)))⟩, ⟨(some 19), none, (.bin .quo (.t 18) (.k (.int .i64 2)))⟩, 
  ⟨(some 11), none, (.mv (.t 19))⟩]) (.block 0 (.loop (.seq (.seq (.reg [⟨(some 20), none, (.mv (.t 11))⟩, ⟨(some 21), none, (.bin .geq (.t 20) (.k (.int .i64 0)))⟩]) 
  (.cond (.t 21) .skip (.exit 0))) (.seq (.block 1 (.reg [⟨(some 24), none, (.mv (.t 0))⟩, ⟨(some 25), none, (.mv (.t 11))⟩, ⟨(some 26), none, (.mv (.t 10))⟩, 
  ⟨(some 27), none, (.mv (.t 8))⟩, ⟨(some 28), none, (.mv (.t 3))⟩, ⟨(some 29), none, (.call f_slices_siftDownCmpFunc_Prefix [(.t 24), (.t 25), (.t 26), (.t 27), (.t 28)])⟩])) 
  (.reg [⟨(some 22), none, (.mv (.t 11))⟩, ⟨(some 23), none, (.bin .sub (.t 22) (.k (.int .i64 1)))⟩, ⟨(some 11), none, (.mv (.t 23))⟩])))))) (.seq 
  (.reg [⟨(some 30), none, (.mv (.t 10))⟩, ⟨(some 31), none, (.bin .sub (.t 30) (.k (.int .i64 1)))⟩, ⟨(some 12), none, (.mv (.t 31))⟩]) (.block 2 (.loop (.seq (.seq 
  (.reg [⟨(some 32), none, (.mv (.t 12))⟩, ⟨(some 33), none, (.bin .geq (.t 32) (.k (.int .i64 0)))⟩]) (.cond (.t 33) .skip (.exit 2))) (.seq (.block 3 (.seq 
  (.drw 0 [⟨⟨(some 36), none, (.mv (.t 0))⟩, .pure, [], []⟩, ⟨⟨(some 37), none, (.mv (.t 8))⟩, .pure, [], []⟩, ⟨⟨(some 38), none, (.mv (.t 0))⟩, .pure, [], []⟩, 
  ⟨⟨(some 39), none, (.mv (.t 8))⟩, .pure, [], []⟩, ⟨⟨(some 40), none, (.mv (.t 12))⟩, .pure, [], []⟩, ⟨⟨(some 41), none, (.bin .add (.t 39) (.t 40))⟩, .pure, [], []⟩, 
  ⟨⟨(some 42), none, (.mv (.t 0))⟩, .pure, [], []⟩, ⟨⟨(some 43), none, (.mv (.t 8))⟩, .pure, [], []⟩, ⟨⟨(some 44), none, (.mv (.t 12))⟩, .pure, [], []⟩, 
  ⟨⟨(some 45), none, (.bin .add (.t 43) (.t 44))⟩, .pure, [], []⟩, ⟨⟨(some 46), none, (.ixa 3 (.t 42) (.t 45))⟩, .pure, [], []⟩, 
  ⟨⟨(some 47), none, (.ld (some 3) (.t 46))⟩, .ld, [], []⟩, ⟨⟨(some 48), none, (.mv (.t 0))⟩, .pure, [11], []⟩, ⟨⟨(some 49), none, (.mv (.t 8))⟩, .pure, [11], []⟩, 
  ⟨⟨(some 50), none, (.ixa 3 (.t 48) (.t 49))⟩, .pure, [11], []⟩, ⟨⟨(some 51), none, (.ld (some 3) (.t 50))⟩, .ld, [], []⟩, 
  ⟨⟨(some 52), none, (.ixa 3 (.t 36) (.t 37))⟩, .pure, [], []⟩, ⟨⟨none, none, (.st (some 3) (.t 52) (.t 47))⟩, .eff, [], []⟩, 
  ⟨⟨(some 53), none, (.ixa 3 (.t 38) (.t 41))⟩, .pure, [], []⟩, ⟨⟨none, none, (.st (some 3) (.t 53) (.t 51))⟩, .eff, [], []⟩]) (.reg [⟨(some 54), none, (.mv (.t 0))⟩, 
  ⟨(some 55), none, (.mv (.t 9))⟩, ⟨(some 56), none, (.mv (.t 12))⟩, ⟨(some 57), none, (.mv (.t 8))⟩, ⟨(some 58), none, (.mv (.t 3))⟩, 
  ⟨(some 59), none, (.call f_slices_siftDownCmpFunc_Prefix [(.t 54), (.t 55), (.t 56), (.t 57), (.t 58)])⟩]))) (.reg [⟨(some 34), none, (.mv (.t 12))⟩, 
  ⟨(some 35), none, (.bin .sub (.t 34) (.k (.int .i64 1)))⟩, ⟨(some 12), none, (.mv (.t 35))⟩]))))))))))⟩
theorem c_slices_heapSortCmpFunc_Prefix : compF Try.prog ⟨some 67, some 66⟩ Try.f72 = some r_slices_heapSortCmpFunc_Prefix := by kernel_rfl
/-- slices.breakPatternsCmpFunc[tenancy/api.Prefix] -/
def r_slices_breakPatternsCmpFunc_Prefix : RF :=
  ⟨67, [], (.seq (.reg [⟨(some 13), none, (.mv (.t 2))⟩, ⟨(some 14), none, (.mv (.t 1))⟩, ⟨(some 15), none, (.bin .sub (.t 13) (.t 14))⟩, ⟨(some 8), none, (.mv (.t 15))⟩]) (.seq 
  (.reg [⟨(some 16), none, (.mv (.t 8))⟩, ⟨(some 17), none, (.bin .geq (.t 16) (.k (.int .i64 8)))⟩]) (.cond (.t 17) (.seq (.reg [⟨(some 18), none, (.mv (.t 8))⟩, 
  ⟨(some 19), none, (.cvi .u64 (.t 18))⟩, ⟨(some 9), none, (.new [(.int .u64 0)])⟩, ⟨none, none, (.st none (.t 9) (.t 19))⟩]) (.seq (.reg [⟨(some 20), none, (.mv (.t 8))⟩, 
  ⟨(some 21), none, (.call f_slices_nextPowerOfTwo [(.t 20)])⟩, ⟨(some 10), none, (.mv (.t 21))⟩]) (.seq (.reg [⟨(some 22), none, (.mv (.t 1))⟩, ⟨(some 23), none, (.mv (.t 8))⟩, 
  ⟨(some 24), none, (.bin .quo (.t 23) (.k (.int .i64 4)))⟩, ⟨(some 25), none, (.bin .mul (.t 24) (.k (.int .i64 2)))⟩, ⟨(some 26), none, (.bin .add (.t 22) (.t 25))⟩, 
  ⟨(some 27), none, (.bin .sub (.t 26) (.k (.int .i64 1)))⟩, ⟨(some 11), none, (.mv (.t 27))⟩]) (.block 0 (.loop (.seq (.seq (.reg [⟨(some 28), none, (.mv (.t 11))⟩, 
  ⟨(some 29), none, (.mv (.t 1))⟩, ⟨(some 30), none, (.mv (.t 8))⟩, ⟨(some 31), none, (.bin .quo (.t 30) (.k (.int .i64 4)))⟩, 
  ⟨(some 32), none, (.bin .mul (.t 31) (.k (.int .i64 2)))⟩, ⟨(some 33), none, (.bin .add (.t 29) (.t 32))⟩, ⟨(some 34), none, (.bin .add (.t 33) (.k (.int .i64 1)))⟩, 
  ⟨(some 35), none, (.bin .leq (.t 28) (.t 34))⟩]) (.cond (.t 35) .skip (.exit 0))) (.seq (.block 1 (.seq (.reg [⟨(some 38), none, (.call f_slices_xorshift_Next [(.t 9)])⟩, 
  ⟨(some 39), none, (.mv (.t 10))⟩, ⟨(some 40), none, (.bin .sub (.t 39) (.k (.int .u64 1)))⟩, ⟨(some 41), none, (.bin .and (.t 38) (.t 40))⟩, 
  ⟨(some 42), none, (.cvi .i64 (.t 41))⟩, ⟨(some 12), none, (.mv (.t 42))⟩]) (.seq (.seq (.reg [⟨(some 43), none, (.mv (.t 12))⟩, ⟨(some 44), none, (.mv (.t 8))⟩, 
  ⟨(some 45), none, (.bin .geq (.t 43) (.t 44))⟩]) (.cond (.t 45) (.reg [⟨(some 46), none, (.mv (.t 12))⟩, ⟨(some 47), none, (.mv (.t 8))⟩, 
  ⟨(some 48), none, (.bin .sub (.t 46) (.t 47))⟩, ⟨(some 12), none, (.mv (.t 48))⟩]) .skip)) (.drw 0 [⟨⟨(some 49), none, (.mv (.t 0))⟩, .pure, [], []⟩, 
  ⟨⟨(some 50), none, (.mv (.t 11))⟩, .pure, [], []⟩, ⟨⟨(some 51), none, (.mv (.t 0))⟩, .pure, [], []⟩, ⟨⟨(some 52), none, (.mv (.t 1))⟩, .pure, [], []⟩, 
  ⟨⟨(some 53), none, (.mv (.t 12))⟩, .pure, [], []⟩, ⟨⟨(some 54), none, (.bin .add (.t 52) (.t 53))⟩, .pure, [], []⟩, ⟨⟨(some 55), none, (.mv (.t 0))⟩, .pure, [], []⟩, 
  ⟨⟨(some 56), none, (.mv (.t 1))⟩, .pure, [], []⟩, ⟨⟨(some 57), none, (.mv (.t 12))⟩, .pure, [], []⟩, ⟨⟨(some 58), none, (.bin .add (.t 56) (.t 57))⟩, .pure, [], []⟩, 
  ⟨⟨(some 59), none, (.ixa 3 (.t 55) (.t 58))⟩, .pure, [], []⟩, ⟨⟨(some 60), none, (.ld (some 3) (.t 59))⟩, .ld, [], []⟩, ⟨⟨(some 61), none, (.mv (.t 0))⟩, .pure, [11], []⟩, 
  ⟨⟨(some 62), none, (.mv (.t 11))⟩, .pure, [11], []⟩, ⟨⟨(some 63), none, (.ixa 3 (.t 61) (.t 62))⟩, .pure, [11], []⟩, ⟨⟨(some 64), none, (.ld (some 3) (.t 63))⟩, .ld, [], []⟩, 
  ⟨⟨(some 65), none, (.ixa 3 (.t 49) (.t 50))⟩, .pure, [], []⟩, ⟨⟨none, none, (.st (some 3) (.t 65) (.t 60))⟩, .eff, [], []⟩, 
  ⟨⟨(some 66), none, (.ixa 3 (.t 51) (.t 54))⟩, .pure, [], []⟩, ⟨⟨none, none, (.st (some 3) (.t 66) (.t 64))⟩, .eff, [], []⟩])))) (.reg [⟨(some 36), none, (.mv (.t 11))⟩, 
  ⟨(some 37), none, (.bin .add (.t 36) (.k (.int .i64 1)))⟩, ⟨(some 11), none, (.mv (.t 37))⟩])))))))) .skip)))⟩
theorem c_slices_breakPatternsCmpFunc_Prefix : compF Try.prog ⟨some 67, some 66⟩ Try.f73 = some r_slices_breakPatternsCmpFunc_Prefix := by kernel_rfl
/-- slices.choosePivotCmpFunc[tenancy/api.Prefix] -/
def r_slices_choosePivotCmpFunc_Prefix : RF :=
  ⟨63, [(.tmp 8), (.tmp 9)], (.seq (.reg [⟨(some 8), none, (.mv (.k (.int .i64 0)))⟩, ⟨(some 9), none, (.mv (.k (.int .i64 0)))⟩]) (.seq (.reg [⟨(some 15), none, (.mv (.t 2))⟩, 
  ⟨(some 16), none, (.mv (.t 1))⟩, ⟨(some 17), none, (.bin .sub (.t 15) (.t 16))⟩, ⟨(some 10), none, (.mv (.t 17))⟩]) (.seq (.reg [⟨(some 11), none, (.new [(.int .i64 0)])⟩]) (.seq 
  (.reg [⟨(some 18), none, (.mv (.t 1))⟩, ⟨(some 19), none, (.mv (.t 10))⟩, ⟨(some 20), none, (.bin .quo (.t 19) (.k (.int .i64 4)))⟩, 
  ⟨(some 21), none, (.bin .mul (.t 20) (.k (.int .i64 1)))⟩, ⟨(some 22), none, (.bin .add (.t 18) (.t 21))⟩, ⟨(some 12), none, (.mv (.t 22))⟩]) (.seq 
  (.reg [⟨(some 23), none, (.mv (.t 1))⟩, ⟨(some 24), none, (.mv (.t 10))⟩, ⟨(some 25), none, (.bin .quo (.t 24) (.k (.int .i64 4)))⟩, 
  ⟨(some 26), none, (.bin .mul (.t 25) (.k (.int .i64 2)))⟩, ⟨(some 27), none, (.bin .add (.t 23) (.t 26))⟩, ⟨(some 13), none, (.mv (.t 27))⟩]) (.seq 
  (.reg [⟨(some 28), none, (.mv (.t 1))⟩, ⟨(some 29), none, (.mv (.t 10))⟩, ⟨(some 30), none, (.bin .quo (.t 29) (.k (.int .i64 4)))⟩, 
  ⟨(some 31), none, (.bin .mul (.t 30) (.k (.int .i64 3)))⟩, ⟨(some 32), none, (.bin .add (.t 28) (.t 31))⟩, ⟨(some 14), none, (.mv (.t 32))⟩]) (.seq (.seq 
  (.reg [⟨(some 33), none, (.mv (.t 10))⟩, ⟨(some 34), none, (.bin .geq (.t 33) (.k (.int .i64 8)))⟩]) (.cond (.t 34) (.seq (.seq (.reg [⟨(some 35), none, (.mv (.t 10))⟩, 
  ⟨(some 36), none, (.bin .geq (.t 35) (.k (.int .i64 50)))⟩]) (.cond (.t 36) (.seq (.reg [⟨(some 37), none, (.mv (.t 0))⟩, ⟨(some 38), none, (.mv (.t 12))⟩, 
  ⟨(some 39), none, (.mv (.t 3))⟩, ⟨(some 40), none, (.call f_slices_medianAdjacentCmpFunc_Prefix [(.t 37), (.t 38), (.t 11), (.t 39)])⟩, ⟨(some 12), none, (.mv (.t 40))⟩]) (.seq 
  (.reg [⟨(some 41), none, (.mv (.t 0))⟩, ⟨(some 42), none, (.mv (.t 13))⟩, ⟨(some 43), none, (.mv (.t 3))⟩, 
  ⟨(some 44), none, (.call f_slices_medianAdjacentCmpFunc_Prefix [(.t 41), (.t 42), (.t 11), (.t 43)])⟩, ⟨(some 13), none, (.mv (.t 44))⟩]) (.reg [⟨(some 45), none, (.mv (.t 0))⟩, 
  ⟨(some 46), none, (.mv (.t 14))⟩, ⟨(some 47), none, (.mv (.t 3))⟩, ⟨(some 48), none, (.call f_slices_medianAdjacentCmpFunc_Prefix [(.t 45), (.t 46), (.t 11), (.t 47)])⟩, 
  ⟨(some 14), none, (.mv (.t 48))⟩]))) .skip)) (.reg [⟨(some 49), none, (.mv (.t 0))⟩, ⟨(some 50), none, (.mv (.t 12))⟩, ⟨(some 51), none, (.mv (.t 13))⟩, 
  ⟨(some 52), none, (.mv (.t 14))⟩, ⟨(some 53), none, (.mv (.t 3))⟩, ⟨(some 54), none, (.call f_slices_medianCmpFunc_Prefix [(.t 49), (.t 50), (.t 51), (.t 52), (.t 11), (.t 53)])⟩, 
  ⟨(some 13), none, (.mv (.t 54))⟩])) .skip)) (.seq (.reg [⟨(some 55), none, (.ld none (.t 11))⟩]) (.block 0 (.seq 
  (.reg [⟨(some 58), none, (.eq false .i (.t 55) (.k (.int .i64 0)))⟩, ⟨(some 57), none, (.mv (.t 58))⟩]) (.cond (.t 57) (.seq (.reg [⟨(some 59), none, (.mv (.t 13))⟩, 
  ⟨(some 8), none, (.mv (.t 59))⟩, ⟨(some 9), none, (.mv (.k (.int .i64 1)))⟩]) .ret) (.seq (.reg [⟨(some 61), none, (.eq false .i (.t 55) (.k (.int .i64 12)))⟩, 
  ⟨(some 60), none, (.mv (.t 61))⟩]) (.cond (.t 60) (.seq (.reg [⟨(some 62), none, (.mv (.t 13))⟩, ⟨(some 8), none, (.mv (.t 62))⟩, 
  ⟨(some 9), none, (.mv (.k (.int .i64 2)))⟩]) .ret) (.seq (.reg [⟨(some 56), none, (.mv (.t 13))⟩, ⟨(some 8), none, (.mv (.t 56))⟩, 
  ⟨(some 9), none, (.mv (.k (.int .i64 0)))⟩]) .ret))))))))))))))⟩
theorem c_slices_choosePivotCmpFunc_Prefix : compF Try.prog ⟨some 67, some 66⟩ Try.f74 = some r_slices_choosePivotCmpFunc_Prefix := by kernel_rfl
/-- slices.reverseRangeCmpFunc[tenancy/api.Prefix] -/
def r_slices_reverseRangeCmpFunc_Prefix : RF :=
  ⟨34, [], (.seq (.reg [⟨(some 10), none, (.mv (.t 1))⟩, ⟨(some 8), none, (.mv (.t 10))⟩]) (.seq (.reg [⟨(some 11), none, (.mv (.t 2))⟩, 
  ⟨(some 12), none, (.bin .sub (.t 11) (.k (.int .i64 1)))⟩, ⟨(some 9), none, (.mv (.t 12))⟩]) (.block 0 (.loop (.seq (.seq (.reg [⟨(some 13), none, (.mv (.t 8))⟩, 
  ⟨(some 14), none, (.mv (.t 9))⟩, ⟨(some 15), none, (.bin .lss (.t 13) (.t 14))⟩]) (.cond (.t 15) .skip (.exit 0))) (.block 1 (.seq 
  (.drw 0 [⟨⟨(some 16), none, (.mv (.t 0))⟩, .pure, [], []⟩, ⟨⟨(some 17), none, (.mv (.t 8))⟩, .pure, [], []⟩, ⟨⟨(some 18), none, (.mv (.t 0))⟩, .pure, [], []⟩, 
  ⟨⟨(some 19), none, (.mv (.t 9))⟩, .pure, [], []⟩, ⟨⟨(some 20), none, (.mv (.t 0))⟩, .pure, [], []⟩, ⟨⟨(some 21), none, (.mv (.t 9))⟩, .pure, [], []⟩, 
  ⟨⟨(some 22), none, (.ixa 3 (.t 20) (.t 21))⟩, .pure, [], []⟩, ⟨⟨(some 23), none, (.ld (some 3) (.t 22))⟩, .ld, [], []⟩, ⟨⟨(some 24), none, (.mv (.t 0))⟩, .pure, [7], []⟩, 
  ⟨⟨(some 25), none, (.mv (.t 8))⟩, .pure, [7], []⟩, ⟨⟨(some 26), none, (.ixa 3 (.t 24) (.t 25))⟩, .pure, [7], []⟩, ⟨⟨(some 27), none, (.ld (some 3) (.t 26))⟩, .ld, [], []⟩, 
  ⟨⟨(some 28), none, (.ixa 3 (.t 16) (.t 17))⟩, .pure, [], []⟩, ⟨⟨none, none, (.st (some 3) (.t 28) (.t 23))⟩, .eff, [], []⟩, 
  ⟨⟨(some 29), none, (.ixa 3 (.t 18) (.t 19))⟩, .pure, [], []⟩, ⟨⟨none, none, (.st (some 3) (.t 29) (.t 27))⟩, .eff, [], []⟩]) (.seq (.reg [⟨(some 30), none, (.mv (.t 8))⟩, 
  ⟨(some 31), none, (.bin .add (.t 30) (.k (.int .i64 1)))⟩, ⟨(some 8), none, (.mv (.t 31))⟩]) (.reg [⟨(some 32), none, (.mv (.t 9))⟩, 
  ⟨(some 33), none, (.bin .sub (.t 32) (.k (.int .i64 1)))⟩, ⟨(some 9), none, (.mv (.t 33))⟩])))))))))⟩
theorem c_slices_reverseRangeCmpFunc_Prefix : compF Try.prog ⟨some 67, some 66⟩ Try.f75 = some r_slices_reverseRangeCmpFunc_Prefix := by kernel_rfl
/-- slices.partialInsertionSortCmpFunc[tenancy/api.Prefix] -/
def r_slices_partialInsertionSortCmpFunc_Prefix : RF :=
  ⟨141, [(.tmp 8)], (.seq (.reg [⟨(some 8), none, (.mv (.k (.bool false)))⟩]) (.seq (.reg [⟨(some 13), none, (.mv (.t 1))⟩, 
  ⟨(some 14), none, (.bin .add (.t 13) (.k (.int .i64 1)))⟩, ⟨(some 9), none, (.mv (.t 14))⟩]) (.seq (.seq (.reg [⟨(some 10), none, (.mv (.k (.int .i64 0)))⟩]) (.block 0 (.loop 
  (.seq (.seq (.reg [⟨(some 15), none, (.mv (.t 10))⟩, ⟨(some 16), none, (.bin .lss (.t 15) (.k (.int .i64 5)))⟩]) (.cond (.t 16) .skip (.exit 0))) (.seq (.block 1 (.seq (.block 2 
  (.loop (.seq (.seq (.drw 0 [⟨⟨(some 19), none, (.mv (.t 9))⟩, .pure, [], []⟩, ⟨⟨(some 20), none, (.mv (.t 2))⟩, .pure, [], []⟩, 
  ⟨⟨(some 21), none, (.bin .lss (.t 19) (.t 20))⟩, .pure, [], []⟩, ⟨⟨(some 22), none, (.mv (.t 21))⟩, .pure, [], []⟩, ⟨⟨(some 23), (some (22, true)), (.mv (.t 3))⟩, .pure, [], []⟩, 
  ⟨⟨(some 24), (some (22, true)), (.mv (.t 0))⟩, .pure, [], []⟩, ⟨⟨(some 25), (some (22, true)), (.mv (.t 9))⟩, .pure, [], []⟩, 
  ⟨⟨(some 26), (some (22, true)), (.ixa 3 (.t 24) (.t 25))⟩, .pure, [], []⟩, ⟨⟨(some 27), (some (22, true)), (.ld (some 3) (.t 26))⟩, .ld, [], []⟩, 
  ⟨⟨(some 28), (some (22, true)), (.mv (.t 0))⟩, .pure, [8], []⟩, ⟨⟨(some 29), (some (22, true)), (.mv (.t 9))⟩, .pure, [8], []⟩, 
  ⟨⟨(some 30), (some (22, true)), (.bin .sub (.t 29) (.k (.int .i64 1)))⟩, .pure, [8], []⟩, ⟨⟨(some 31), (some (22, true)), (.ixa 3 (.t 28) (.t 30))⟩, .pure, [8], []⟩, 
  ⟨⟨(some 32), (some (22, true)), (.ld (some 3) (.t 31))⟩, .ld, [], []⟩, ⟨⟨(some 33), (some (22, true)), (.calld (.t 23) [(.t 27), (.t 32)])⟩, .eff, [], []⟩, 
  ⟨⟨(some 34), (some (22, true)), (.bin .lss (.t 33) (.k (.int .i64 0)))⟩, .pure, [], []⟩, ⟨⟨(some 35), (some (22, true)), (.un .not (.t 34))⟩, .pure, [], []⟩, 
  ⟨⟨(some 36), none, (.pick (.t 22) (.t 35) (.k (.bool false)))⟩, .pure, [], []⟩]) (.cond (.t 36) .skip (.exit 2))) (.block 3 (.reg [⟨(some 37), none, (.mv (.t 9))⟩, 
  ⟨(some 38), none, (.bin .add (.t 37) (.k (.int .i64 1)))⟩, ⟨(some 9), none, (.mv (.t 38))⟩]))))) (.seq (.seq (.reg [⟨(some 39), none, (.mv (.t 9))⟩, 
  ⟨(some 40), none, (.mv (.t 2))⟩, ⟨(some 41), none, (.eq false .i (.t 39) (.t 40))⟩]) (.cond (.t 41) (.seq (.reg [⟨(some 8), none, (.mv (.k (.bool true)))⟩]) .ret) .skip)) (.seq 
  (.seq (.reg [⟨(some 42), none, (.mv (.t 2))⟩, ⟨(some 43), none, (.mv (.t 1))⟩, ⟨(some 44), none, (.bin .sub (.t 42) (.t 43))⟩, 
  ⟨(some 45), none, (.bin .lss (.t 44) (.k (.int .i64 50)))⟩]) (.cond (.t 45) (.seq (.reg [⟨(some 8), none, (.mv (.k (.bool false)))⟩]) .ret) .skip)) (.seq 
  (.drw 0 [⟨⟨(some 46), none, (.mv (.t 0))⟩, .pure, [], []⟩, ⟨⟨(some 47), none, (.mv (.t 9))⟩, .pure, [], []⟩, ⟨⟨(some 48), none, (.mv (.t 0))⟩, .pure, [], []⟩, 
  ⟨⟨(some 49), none, (.mv (.t 9))⟩, .pure, [], []⟩, ⟨⟨(some 50), none, (.bin .sub (.t 49) (.k (.int .i64 1)))⟩, .pure, [], []⟩, ⟨⟨(some 51), none, (.mv (.t 0))⟩, .pure, [], []⟩, 
  ⟨⟨(some 52), none, (.mv (.t 9))⟩, .pure, [], []⟩, ⟨⟨(some 53), none, (.bin .sub (.t 52) (.k (.int .i64 1)))⟩, .pure, [], []⟩, 
  ⟨⟨(some 54), none, (.ixa 3 (.t 51) (.t 53))⟩, .pure, [], []⟩, ⟨⟨(some 55), none, (.ld (some 3) (.t 54))⟩, .ld, [], []⟩, ⟨⟨(some 56), none, (.mv (.t 0))⟩, .pure, [9], []⟩, 
  ⟨⟨(some 57), none, (.mv (.t 9))⟩, .pure, [9], []⟩, ⟨⟨(some 58), none, (.ixa 3 (.t 56) (.t 57))⟩, .pure, [9], []⟩, ⟨⟨(some 59), none, (.ld (some 3) (.t 58))⟩, .ld, [], []⟩, 
  ⟨⟨(some 60), none, (.ixa 3 (.t 46) (.t 47))⟩, .pure, [], []⟩, ⟨⟨none, none, (.st (some 3) (.t 60) (.t 55))⟩, .eff, [], []⟩, 
  ⟨⟨(some 61), none, (.ixa 3 (.t 48) (.t 50))⟩, .pure, [], []⟩, ⟨⟨none, none, (.st (some 3) (.t 61) (.t 59))⟩, .eff, [], []⟩]) (.seq (.seq (.reg [⟨(some 62), none, (.mv (.t 9))⟩, 
  ⟨(some 63), none, (.mv (.t 1))⟩, ⟨(some 64), none, (.bin .sub (.t 62) (.t 63))⟩, ⟨(some 65), none, (.bin .geq (.t 64) (.k (.int .i64 2)))⟩]) (.cond (.t 65) (.seq 
  (.reg [⟨(some 66), none, (.mv (.t 9))⟩, ⟨(some 67), none, (.bin .sub (.t 66) (.k (.int .i64 1)))⟩, ⟨(some 11), none, (.mv (.t 67))⟩]) (.block 4 (.loop (.seq (.seq 
  (.reg [⟨(some 68), none, (.mv (.t 11))⟩, ⟨(some 69), none, (.bin .geq (.t 68) (.k (.int .i64 1)))⟩]) (.cond (.t 69) .skip (.exit 4))) (.seq (.block 5 (.seq (.seq 
  (.drw 0 [⟨⟨(some 72), none, (.mv (.t 3))⟩, .pure, [], []⟩, ⟨⟨(some 73), none, (.mv (.t 0))⟩, .pure, [], []⟩, ⟨⟨(some 74), none, (.mv (.t 11))⟩, .pure, [], []⟩, 
  ⟨⟨(some 75), none, (.ixa 3 (.t 73) (.t 74))⟩, .pure, [], []⟩, ⟨⟨(some 76), none, (.ld (some 3) (.t 75))⟩, .ld, [], []⟩, ⟨⟨(some 77), none, (.mv (.t 0))⟩, .pure, [4], []⟩, 
  ⟨⟨(some 78), none, (.mv (.t 11))⟩, .pure, [4], []⟩, ⟨⟨(some 79), none, (.bin .sub (.t 78) (.k (.int .i64 1)))⟩, .pure, [4], []⟩, 
  ⟨⟨(some 80), none, (.ixa 3 (.t 77) (.t 79))⟩, .pure, [4], []⟩, ⟨⟨(some 81), none, (.ld (some 3) (.t 80))⟩, .ld, [], []⟩, 
  ⟨⟨(some 82), none, (.calld (.t 72) [(.t 76), (.t 81)])⟩, .eff, [], []⟩, ⟨⟨(some 83), none, (.bin .lss (.t 82) (.k (.int .i64 0)))⟩, .pure, [], []⟩, 
  ⟨⟨(some 84), none, (.un .not (.t 83))⟩, .pure, [], []⟩]) (.cond (.t 84) (.exit 4) .skip)) (.drw 0 [⟨⟨(some 85), none, (.mv (.t 0))⟩, .pure, [], []⟩, 
  ⟨⟨(some 86), none, (.mv (.t 11))⟩, .pure, [], []⟩, ⟨⟨(some 87), none, (.mv (.t 0))⟩, .pure, [], []⟩, ⟨⟨(some 88), none, (.mv (.t 11))⟩, .pure, [], []⟩, 
  ⟨⟨(some 89), none, (.bin .sub (.t 88) (.k (.int .i64 1)))⟩, .pure, [], []⟩, ⟨⟨(some 90), none, (.mv (.t 0))⟩, .pure, [], []⟩, ⟨⟨(some 91), none, (.mv (.t 11))⟩, .pure, [], []⟩, 
  ⟨⟨(some 92), none, (.bin .sub (.t 91) (.k (.int .i64 1)))⟩, .pure, [], []⟩, ⟨⟨(some 93), none, (.ixa 3 (.t 90) (.t 92))⟩, .pure, [], []⟩, 
  ⟨⟨(some 94), none, (.ld (some 3) (.t 93))⟩, .ld, [], []⟩, ⟨⟨(some 95), none, (.mv (.t 0))⟩, .pure, [9], []⟩, ⟨⟨(some 96), none, (.mv (.t 11))⟩, .pure, [9], []⟩, 
  ⟨⟨(some 97), none, (.ixa 3 (.t 95) (.t 96))⟩, .pure, [9], []⟩, ⟨⟨(some 98), none, (.ld (some 3) (.t 97))⟩, .ld, [], []⟩, 
  ⟨⟨(some 99), none, (.ixa 3 (.t 85) (.t 86))⟩, .pure, [], []⟩, ⟨⟨none, none, (.st (some 3) (.t 99) (.t 94))⟩, .eff, [], []⟩, 
  ⟨⟨(some 100), none, (.ixa 3 (.t 87) (.t 89))⟩, .pure, [], []⟩, ⟨⟨none, none, (.st (some 3) (.t 100) (.t 98))⟩, .eff, [], []⟩]))) (.reg [⟨(some 70), none, (.mv (.t 11))⟩, 
  ⟨(some 71), none, (.bin .sub (.t 70) (.k (.int .i64 1)))⟩, ⟨(some 11), none, (.mv (.t 71))⟩])))))) .skip)) (.seq (.reg [⟨(some 101), none, (.mv (.t 2))⟩, 
  ⟨(some 102), none, (.mv (.t 9))⟩, ⟨(some 103), none, (.bin .sub (.t 101) (.t 102))⟩, ⟨(some 104), none, (.bin .geq (.t 103) (.k (.int .i64 2)))⟩]) (.cond (.t 104) (.seq 
  (.reg [⟨(some 105), none, (.mv (.t 9))⟩, ⟨(some 106), none, (.bin .add (.t 105) (.k (.int .i64 1)))⟩, ⟨(some 12), none, (.mv (.t 106))⟩]) (.block 6 (.loop (.seq (.seq 
  (.reg [⟨(some 107), none, (.mv (.t 12))⟩, ⟨(some 108), none, (.mv (.t 2))⟩, ⟨(some 109), none, (.bin .lss (.t 107) (.t 108))⟩]) (.cond (.t 109) .skip (.exit 6))) (.seq (.block 7 
  (.seq (.seq (.drw 0 [⟨⟨(some 112), none, (.mv (.t 3))⟩, .pure, [], []⟩, ⟨⟨(some 113), none, (.mv (.t 0))⟩, .pure, [], []⟩, ⟨⟨(some 114), none, (.mv (.t 12))⟩, .pure, [], []⟩, 
  ⟨⟨(some 115), none, (.ixa 3 (.t 113) (.t 114))⟩, .pure, [], []⟩, ⟨⟨(some 116), none, (.ld (some 3) (.t 115))⟩, .ld, [], []⟩, ⟨⟨(some 117), none, (.mv (.t 0))⟩, .pure, [4], []⟩, 
  ⟨⟨(some 118), none, (.mv (.t 12))⟩, .pure, [4], []⟩, ⟨⟨(some 119), none, (.bin .sub (.t 118) (.k (.int .i64 1)))⟩, .pure, [4], []⟩, 
  ⟨⟨(some 120), none, (.ixa 3 (.t 117) (.t 119))⟩, .pure, [4], []⟩, ⟨⟨(some 121), none, (.ld (some 3) (.t 120))⟩, .ld, [], []⟩, 
  ⟨⟨(some 122), none, (.calld (.t 112) [(.t 116), (.t 121)])⟩, .eff, [], []⟩, ⟨⟨(some 123), none, (.bin .lss (.t 122) (.k (.int .i64 0)))⟩, .pure, [], []⟩, 
  ⟨⟨(some 124), none, (.un .not (.t 123))⟩, .pure, [], []⟩]) (.cond (.t 124) (.exit 6) .skip)) (.drw 0 [⟨⟨(some 125), none, (.mv (.t 0))⟩, .pure, [], []⟩, 
  ⟨⟨(some 126), none, (.mv (.t 12))⟩, .pure, [], []⟩, ⟨⟨(some 127), none, (.mv (.t 0))⟩, .pure, [], []⟩, ⟨⟨(some 128), none, (.mv (.t 12))⟩, .pure, [], []⟩, 
  ⟨⟨(some 129), none, (.bin .sub (.t 128) (.k (.int .i64 1)))⟩, .pure, [], []⟩, ⟨⟨(some 130), none, (.mv (.t 0))⟩, .pure, [], []⟩, 
  ⟨⟨(some 131), none, (.mv (.t 12))⟩, .pure, [], []⟩, ⟨⟨(some 132), none, (.bin .sub (.t 131) (.k (.int .i64 1)))⟩, .pure, [], []⟩, 
  ⟨⟨(some 133), none, (.ixa 3 (.t 130) (.t 132))⟩, .pure, [], []⟩, ⟨⟨(some 134), none, (.ld (some 3) (.t 133))⟩, .ld, [], []⟩, ⟨⟨(some 135), none, (.mv (.t 0))⟩, .pure, [9], []⟩, 
  ⟨⟨(some 136), none, (.mv (.t 12))⟩, .pure, [9], []⟩, ⟨⟨(some 137), none, (.ixa 3 (.t 135) (.t 136))⟩, .pure, [9], []⟩, ⟨⟨(some 138), none, (.ld (some 3) (.t 137))⟩, .ld, [], []⟩, 
  ⟨⟨(some 139), none, (.ixa 3 (.t 125) (.t 126))⟩, .pure, [], []⟩, ⟨⟨none, none, (.st (some 3) (.t 139) (.t 134))⟩, .eff, [], []⟩, 
  ⟨⟨(some 140), none, (.ixa 3 (.t 127) (.t 129))⟩, .pure, [], []⟩, ⟨⟨none, none, (.st (some 3) (.t 140) (.t 138))⟩, .eff, [], []⟩]))) (.reg [⟨(some 110), none, (.mv (.t 12))⟩, 
  ⟨(some 111), none, (.bin .add (.t 110) (.k (.int .i64 1)))⟩, ⟨(some 12), none, (.mv (.t 111))⟩])))))) .skip)))))))) (.reg [⟨(some 17), none, (.mv (.t 10))⟩, 
  ⟨(some 18), none, (.bin .add (.t 17) (.k (.int .i64 1)))⟩, ⟨(some 10), none, (.mv (.t 18))⟩])))))) (.seq (.reg [⟨(some 8), none, (.mv (.k (.bool false)))⟩]) .ret))))⟩
theorem c_slices_partialInsertionSortCmpFunc_Prefix : compF Try.prog ⟨some 67, some 66⟩ Try.f76 = some r_slices_partialInsertionSortCmpFunc_Prefix := by kernel_rfl
/-- slices.partitionEqualCmpFunc[tenancy/api.Prefix] -/
def r_slices_partitionEqualCmpFunc_Prefix : RF :=
  ⟨90, [(.tmp 10)], (.seq (.reg [⟨(some 10), none, (.mv (.k (.int .i64 0)))⟩]) (.seq (.drw 0 [⟨⟨(some 13), none, (.mv (.t 0))⟩, .pure, [], []⟩, 
  ⟨⟨(some 14), none, (.mv (.t 1))⟩, .pure, [], []⟩, ⟨⟨(some 15), none, (.mv (.t 0))⟩, .pure, [], []⟩, ⟨⟨(some 16), none, (.mv (.t 3))⟩, .pure, [], []⟩, 
  ⟨⟨(some 17), none, (.mv (.t 0))⟩, .pure, [], []⟩, ⟨⟨(some 18), none, (.mv (.t 3))⟩, .pure, [], []⟩, ⟨⟨(some 19), none, (.ixa 3 (.t 17) (.t 18))⟩, .pure, [], []⟩, 
  ⟨⟨(some 20), none, (.ld (some 3) (.t 19))⟩, .ld, [], []⟩, ⟨⟨(some 21), none, (.mv (.t 0))⟩, .pure, [7], []⟩, ⟨⟨(some 22), none, (.mv (.t 1))⟩, .pure, [7], []⟩, 
  ⟨⟨(some 23), none, (.ixa 3 (.t 21) (.t 22))⟩, .pure, [7], []⟩, ⟨⟨(some 24), none, (.ld (some 3) (.t 23))⟩, .ld, [], []⟩, 
  ⟨⟨(some 25), none, (.ixa 3 (.t 13) (.t 14))⟩, .pure, [], []⟩, ⟨⟨none, none, (.st (some 3) (.t 25) (.t 20))⟩, .eff, [], []⟩, 
  ⟨⟨(some 26), none, (.ixa 3 (.t 15) (.t 16))⟩, .pure, [], []⟩, ⟨⟨none, none, (.st (some 3) (.t 26) (.t 24))⟩, .eff, [], []⟩]) (.seq (.reg [⟨(some 27), none, (.mv (.t 1))⟩, 
  ⟨(some 28), none, (.bin .add (.t 27) (.k (.int .i64 1)))⟩, ⟨(some 29), none, (.mv (.t 2))⟩, ⟨(some 30), none, (.bin .sub (.t 29) (.k (.int .i64 1)))⟩, 
  ⟨(some 11), none, (.mv (.t 28))⟩, ⟨(some 12), none, (.mv (.t 30))⟩]) (.seq (.block 0 (.loop (.block 1 (.seq (.block 2 (.loop (.seq (.seq 
  (.drw 0 [⟨⟨(some 31), none, (.mv (.t 11))⟩, .pure, [], []⟩, ⟨⟨(some 32), none, (.mv (.t 12))⟩, .pure, [], []⟩, ⟨⟨(some 33), none, (.bin .leq (.t 31) (.t 32))⟩, .pure, [], []⟩, 
  ⟨⟨(some 34), none, (.mv (.t 33))⟩, .pure, [], []⟩, ⟨⟨(some 35), (some (34, true)), (.mv (.t 4))⟩, .pure, [], []⟩, ⟨⟨(some 36), (some (34, true)), (.mv (.t 0))⟩, .pure, [], []⟩, 
  ⟨⟨(some 37), (some (34, true)), (.mv (.t 1))⟩, .pure, [], []⟩, ⟨⟨(some 38), (some (34, true)), (.ixa 3 (.t 36) (.t 37))⟩, .pure, [], []⟩, 
  ⟨⟨(some 39), (some (34, true)), (.ld (some 3) (.t 38))⟩, .ld, [], []⟩, ⟨⟨(some 40), (some (34, true)), (.mv (.t 0))⟩, .pure, [8], []⟩, 
  ⟨⟨(some 41), (some (34, true)), (.mv (.t 11))⟩, .pure, [8], []⟩, ⟨⟨(some 42), (some (34, true)), (.ixa 3 (.t 40) (.t 41))⟩, .pure, [8], []⟩, 
  ⟨⟨(some 43), (some (34, true)), (.ld (some 3) (.t 42))⟩, .ld, [], []⟩, ⟨⟨(some 44), (some (34, true)), (.calld (.t 35) [(.t 39), (.t 43)])⟩, .eff, [], []⟩, 
  ⟨⟨(some 45), (some (34, true)), (.bin .lss (.t 44) (.k (.int .i64 0)))⟩, .pure, [], []⟩, ⟨⟨(some 46), (some (34, true)), (.un .not (.t 45))⟩, .pure, [], []⟩, 
  ⟨⟨(some 47), none, (.pick (.t 34) (.t 46) (.k (.bool false)))⟩, .pure, [], []⟩]) (.cond (.t 47) .skip (.exit 2))) (.block 3 (.reg [⟨(some 48), none, (.mv (.t 11))⟩, 
  ⟨(some 49), none, (.bin .add (.t 48) (.k (.int .i64 1)))⟩, ⟨(some 11), none, (.mv (.t 49))⟩]))))) (.seq (.block 4 (.loop (.seq (.seq 
  (.drw 0 [⟨⟨(some 50), none, (.mv (.t 11))⟩, .pure, [], []⟩, ⟨⟨(some 51), none, (.mv (.t 12))⟩, .pure, [], []⟩, ⟨⟨(some 52), none, (.bin .leq (.t 50) (.t 51))⟩, .pure, [], []⟩, 
  ⟨⟨(some 53), none, (.mv (.t 52))⟩, .pure, [], []⟩, ⟨⟨(some 54), (some (53, true)), (.mv (.t 4))⟩, .pure, [], []⟩, ⟨⟨(some 55), (some (53, true)), (.mv (.t 0))⟩, .pure, [], []⟩, 
  ⟨⟨(some 56), (some (53, true)), (.mv (.t 1))⟩, .pure, [], []⟩, ⟨⟨(some 57), (some (53, true)), (.ixa 3 (.t 55) (.t 56))⟩, .pure, [], []⟩, 
  ⟨⟨(some 58), (some (53, true)), (.ld (some 3) (.t 57))⟩, .ld, [], []⟩, ⟨⟨(some 59), (some (53, true)), (.mv (.t 0))⟩, .pure, [8], []⟩, 
  ⟨⟨(some 60), (some (53, true)), (.mv (.t 12))⟩, .pure, [8], []⟩, ⟨⟨(some 61), (some (53, true)), (.ixa 3 (.t 59) (.t 60))⟩, .pure, [8], []⟩, 
  ⟨⟨(some 62), (some (53, true)), (.ld (some 3) (.t 61))⟩, .ld, [], []⟩, ⟨⟨(some 63), (some (53, true)), (.calld (.t 54) [(.t 58), (.t 62)])⟩, .eff, [], []⟩, 
  ⟨⟨(some 64), (some (53, true)), (.bin .lss (.t 63) (.k (.int .i64 0)))⟩, .pure, [], []⟩, ⟨⟨(some 65), none, (.pick (.t 53) (.t 64) (.k (.bool false)))⟩, .pure, [], []⟩]) 
  (.cond (.t 65) .skip (.exit 4))) (.block 5 (.reg [⟨(some 66), none, (.mv (.t 12))⟩, ⟨(some 67), none, (.bin .sub (.t 66) (.k (.int .i64 1)))⟩, 
  ⟨(some 12), none, (.mv (.t 67))⟩]))))) (.seq (.seq (.reg [⟨(some 68), none, (.mv (.t 11))⟩, ⟨(some 69), none, (.mv (.t 12))⟩, ⟨(some 70), none, (.bin .gtr (.t 68) (.t 69))⟩]) 
  (.cond (.t 70) (.exit 0) .skip)) (.seq (.drw 0 [⟨⟨(some 71), none, (.mv (.t 0))⟩, .pure, [], []⟩, ⟨⟨(some 72), none, (.mv (.t 11))⟩, .pure, [], []⟩, 
  ⟨⟨(some 73), none, (.mv (.t 0))⟩, .pure, [], []⟩, ⟨⟨(some 74), none, (.mv (.t 12))⟩, .pure, [], []⟩, ⟨⟨(some 75), none, (.mv (.t 0))⟩, .pure, [], []⟩, 
  ⟨⟨(some 76), none, (.mv (.t 12))⟩, .pure, [], []⟩, ⟨⟨(some 77), none, (.ixa 3 (.t 75) (.t 76))⟩, .pure, [], []⟩, ⟨⟨(some 78), none, (.ld (some 3) (.t 77))⟩, .ld, [], []⟩, 
  ⟨⟨(some 79), none, (.mv (.t 0))⟩, .pure, [7], []⟩, ⟨⟨(some 80), none, (.mv (.t 11))⟩, .pure, [7], []⟩, ⟨⟨(some 81), none, (.ixa 3 (.t 79) (.t 80))⟩, .pure, [7], []⟩, 
  ⟨⟨(some 82), none, (.ld (some 3) (.t 81))⟩, .ld, [], []⟩, ⟨⟨(some 83), none, (.ixa 3 (.t 71) (.t 72))⟩, .pure, [], []⟩, 
  ⟨⟨none, none, (.st (some 3) (.t 83) (.t 78))⟩, .eff, [], []⟩, ⟨⟨(some 84), none, (.ixa 3 (.t 73) (.t 74))⟩, .pure, [], []⟩, 
  ⟨⟨none, none, (.st (some 3) (.t 84) (.t 82))⟩, .eff, [], []⟩]) (.seq (.reg [⟨(some 85), none, (.mv (.t 11))⟩, ⟨(some 86), none, (.bin .add (.t 85) (.k (.int .i64 1)))⟩, 
  ⟨(some 11), none, (.mv (.t 86))⟩]) (.reg [⟨(some 87), none, (.mv (.t 12))⟩, ⟨(some 88), none, (.bin .sub (.t 87) (.k (.int .i64 1)))⟩, ⟨(some 12), none, (.mv (.t 88))⟩]))))))))) 
  (.seq (.reg [⟨(some 89), none, (.mv (.t 11))⟩, ⟨(some 10), none, (.mv (.t 89))⟩]) .ret)))))⟩
theorem c_slices_partitionEqualCmpFunc_Prefix : compF Try.prog ⟨some 67, some 66⟩ Try.f77 = some r_slices_partitionEqualCmpFunc_Prefix := by kernel_rfl
/-- slices.partitionCmpFunc[tenancy/api.Prefix] -/
def r_slices_partitionCmpFunc_Prefix : RF :=
  ⟨178, [(.tmp 10), (.tmp 11)], (.seq (.reg [⟨(some 10), none, (.mv (.k (.int .i64 0)))⟩, ⟨(some 11), none, (.mv (.k (.bool false)))⟩]) (.seq 
  (.drw 0 [⟨⟨(some 14), none, (.mv (.t 0))⟩, .pure, [], []⟩, ⟨⟨(some 15), none, (.mv (.t 1))⟩, .pure, [], []⟩, ⟨⟨(some 16), none, (.mv (.t 0))⟩, .pure, [], []⟩, 
  ⟨⟨(some 17), none, (.mv (.t 3))⟩, .pure, [], []⟩, ⟨⟨(some 18), none, (.mv (.t 0))⟩, .pure, [], []⟩, ⟨⟨(some 19), none, (.mv (.t 3))⟩, .pure, [], []⟩, 
  ⟨⟨(some 20), none, (.ixa 3 (.t 18) (.t 19))⟩, .pure, [], []⟩, ⟨⟨(some 21), none, (.ld (some 3) (.t 20))⟩, .ld, [], []⟩, ⟨⟨(some 22), none, (.mv (.t 0))⟩, .pure, [7], []⟩, 
  ⟨⟨(some 23), none, (.mv (.t 1))⟩, .pure, [7], []⟩, ⟨⟨(some 24), none, (.ixa 3 (.t 22) (.t 23))⟩, .pure, [7], []⟩, ⟨⟨(some 25), none, (.ld (some 3) (.t 24))⟩, .ld, [], []⟩, 
  ⟨⟨(some 26), none, (.ixa 3 (.t 14) (.t 15))⟩, .pure, [], []⟩, ⟨⟨none, none, (.st (some 3) (.t 26) (.t 21))⟩, .eff, [], []⟩, 
  ⟨⟨(some 27), none, (.ixa 3 (.t 16) (.t 17))⟩, .pure, [], []⟩, ⟨⟨none, none, (.st (some 3) (.t 27) (.t 25))⟩, .eff, [], []⟩]) (.seq (.reg [⟨(some 28), none, (.mv (.t 1))⟩, 
  ⟨(some 29), none, (.bin .add (.t 28) (.k (.int .i64 1)))⟩, ⟨(some 30), none, (.mv (.t 2))⟩, ⟨(some 31), none, (.bin .sub (.t 30) (.k (.int .i64 1)))⟩, 
  ⟨(some 12), none, (.mv (.t 29))⟩, ⟨(some 13), none, (.mv (.t 31))⟩]) (.seq (.block 0 (.loop (.seq (.seq (.drw 0 [⟨⟨(some 32), none, (.mv (.t 12))⟩, .pure, [], []⟩, 
  ⟨⟨(some 33), none, (.mv (.t 13))⟩, .pure, [], []⟩, ⟨⟨(some 34), none, (.bin .leq (.t 32) (.t 33))⟩, .pure, [], []⟩, ⟨⟨(some 35), none, (.mv (.t 34))⟩, .pure, [], []⟩, 
  ⟨⟨(some 36), (some (35, true)), (.mv (.t 4))⟩, .pure, [], []⟩, ⟨⟨(some 37), (some (35, true)), (.mv (.t 0))⟩, .pure, [], []⟩, 
  ⟨⟨(some 38), (some (35, true)), (.mv (.t 12))⟩, .pure, [], []⟩, ⟨⟨(some 39), (some (35, true)), (.ixa 3 (.t 37) (.t 38))⟩, .pure, [], []⟩, 
  ⟨⟨(some 40), (some (35, true)), (.ld (some 3) (.t 39))⟩, .ld, [], []⟩, ⟨⟨(some 41), (some (35, true)), (.mv (.t 0))⟩, .pure, [8], []⟩, 
  ⟨⟨(some 42), (some (35, true)), (.mv (.t 1))⟩, .pure, [8], []⟩, ⟨⟨(some 43), (some (35, true)), (.ixa 3 (.t 41) (.t 42))⟩, .pure, [8], []⟩, 
  ⟨⟨(some 44), (some (35, true)), (.ld (some 3) (.t 43))⟩, .ld, [], []⟩, ⟨⟨(some 45), (some (35, true)), (.calld (.t 36) [(.t 40), (.t 44)])⟩, .eff, [], []⟩, 
  ⟨⟨(some 46), (some (35, true)), (.bin .lss (.t 45) (.k (.int .i64 0)))⟩, .pure, [], []⟩, ⟨⟨(some 47), none, (.pick (.t 35) (.t 46) (.k (.bool false)))⟩, .pure, [], []⟩]) 
  (.cond (.t 47) .skip (.exit 0))) (.block 1 (.reg [⟨(some 48), none, (.mv (.t 12))⟩, ⟨(some 49), none, (.bin .add (.t 48) (.k (.int .i64 1)))⟩, 
  ⟨(some 12), none, (.mv (.t 49))⟩]))))) (.seq (.block 2 (.loop (.seq (.seq (.drw 0 [⟨⟨(some 50), none, (.mv (.t 12))⟩, .pure, [], []⟩, 
  ⟨⟨(some 51), none, (.mv (.t 13))⟩, .pure, [], []⟩, ⟨⟨(some 52), none, (.bin .leq (.t 50) (.t 51))⟩, .pure, [], []⟩, ⟨⟨(some 53), none, (.mv (.t 52))⟩, .pure, [], []⟩, 
  ⟨⟨(some 54), (some (53, true)), (.mv (.t 4))⟩, .pure, [], []⟩, ⟨⟨(some 55), (some (53, true)), (.mv (.t 0))⟩, .pure, [], []⟩, 
  ⟨⟨(some 56), (some (53, true)), (.mv (.t 13))⟩, .pure, [], []⟩, ⟨⟨(some 57), (some (53, true)), (.ixa 3 (.t 55) (.t 56))⟩, .pure, [], []⟩, 
  ⟨⟨(some 58), (some (53, true)), (.ld (some 3) (.t 57))⟩, .ld, [], []⟩, ⟨⟨(some 59), (some (53, true)), (.mv (.t 0))⟩, .pure, [8], []⟩, 
  ⟨⟨(some 60), (some (53, true)), (.mv (.t 1))⟩, .pure, [8], []⟩, ⟨⟨(some 61), (some (53, true)), (.ixa 3 (.t 59) (.t 60))⟩, .pure, [8], []⟩, 
  ⟨⟨(some 62), (some (53, true)), (.ld (some 3) (.t 61))⟩, .ld, [], []⟩, ⟨⟨(some 63), (some (53, true)), (.calld (.t 54) [(.t 58), (.t 62)])⟩, .eff, [], []⟩, 
  ⟨⟨(some 64), (some (53, true)), (.bin .lss (.t 63) (.k (.int .i64 0)))⟩, .pure, [], []⟩, ⟨⟨(some 65), (some (53, true)), (.un .not (.t 64))⟩, .pure, [], []⟩, 
  ⟨⟨(some 66), none, (.pick (.t 53) (.t 65) (.k (.bool false)))⟩, .pure, [], []⟩]) (.cond (.t 66) .skip (.exit 2))) (.block 3 (.reg [⟨(some 67), none, (.mv (.t 13))⟩, 
  ⟨(some 68), none, (.bin .sub (.t 67) (.k (.int .i64 1)))⟩, ⟨(some 13), none, (.mv (.t 68))⟩]))))) (.seq (.seq (.reg [⟨(some 69), none, (.mv (.t 12))⟩, 
  ⟨(some 70), none, (.mv (.t 13))⟩, ⟨(some 71), none, (.bin .gtr (.t 69) (.t 70))⟩]) (.cond (.t 71) (.seq (.drw 0 [⟨⟨(some 72), none, (.mv (.t 0))⟩, .pure, [], []⟩, 
  ⟨⟨(some 73), none, (.mv (.t 13))⟩, .pure, [], []⟩, ⟨⟨(some 74), none, (.mv (.t 0))⟩, .pure, [], []⟩, ⟨⟨(some 75), none, (.mv (.t 1))⟩, .pure, [], []⟩, 
  ⟨⟨(some 76), none, (.mv (.t 0))⟩, .pure, [], []⟩, ⟨⟨(some 77), none, (.mv (.t 1))⟩, .pure, [], []⟩, ⟨⟨(some 78), none, (.ixa 3 (.t 76) (.t 77))⟩, .pure, [], []⟩, 
  ⟨⟨(some 79), none, (.ld (some 3) (.t 78))⟩, .ld, [], []⟩, ⟨⟨(some 80), none, (.mv (.t 0))⟩, .pure, [7], []⟩, ⟨⟨(some 81), none, (.mv (.t 13))⟩, .pure, [7], []⟩, 
  ⟨⟨(some 82), none, (.ixa 3 (.t 80) (.t 81))⟩, .pure, [7], []⟩, ⟨⟨(some 83), none, (.ld (some 3) (.t 82))⟩, .ld, [], []⟩, 
  ⟨⟨(some 84), none, (.ixa 3 (.t 72) (.t 73))⟩, .pure, [], []⟩, ⟨⟨none, none, (.st (some 3) (.t 84) (.t 79))⟩, .eff, [], []⟩, 
  ⟨⟨(some 85), none, (.ixa 3 (.t 74) (.t 75))⟩, .pure, [], []⟩, ⟨⟨none, none, (.st (some 3) (.t 85) (.t 83))⟩, .eff, [], []⟩]) (.seq (.reg [⟨(some 86), none, (.mv (.t 13))⟩, 
  ⟨(some 10), none, (.mv (.t 86))⟩, ⟨(some 11), none, (.mv (.k (.bool true)))⟩]) .ret)) .skip)) (.seq (.drw 0 [⟨⟨(some 87), none, (.mv (.t 0))⟩, .pure, [], []⟩, 
  ⟨⟨(some 88), none, (.mv (.t 12))⟩, .pure, [], []⟩, ⟨⟨(some 89), none, (.mv (.t 0))⟩, .pure, [], []⟩, ⟨⟨(some 90), none, (.mv (.t 13))⟩, .pure, [], []⟩, 
  ⟨⟨(some 91), none, (.mv (.t 0))⟩, .pure, [], []⟩, ⟨⟨(some 92), none, (.mv (.t 13))⟩, .pure, [], []⟩, ⟨⟨(some 93), none, (.ixa 3 (.t 91) (.t 92))⟩, .pure, [], []⟩, 
  ⟨⟨(some 94), none, (.ld (some 3) (.t 93))⟩, .ld, [], []⟩, ⟨⟨(some 95), none, (.mv (.t 0))⟩, .pure, [7], []⟩, ⟨⟨(some 96), none, (.mv (.t 12))⟩, .pure, [7], []⟩, 
  ⟨⟨(some 97), none, (.ixa 3 (.t 95) (.t 96))⟩, .pure, [7], []⟩, ⟨⟨(some 98), none, (.ld (some 3) (.t 97))⟩, .ld, [], []⟩, 
  ⟨⟨(some 99), none, (.ixa 3 (.t 87) (.t 88))⟩, .pure, [], []⟩, ⟨⟨none, none, (.st (some 3) (.t 99) (.t 94))⟩, .eff, [], []⟩, 
  ⟨⟨(some 100), none, (.ixa 3 (.t 89) (.t 90))⟩, .pure, [], []⟩, ⟨⟨none, none, (.st (some 3) (.t 100) (.t 98))⟩, .eff, [], []⟩]) (.seq (.reg [⟨(some 101), none, (.mv (.t 12))⟩, 
  ⟨(some 102), none, (.bin .add (.t 101) (.k (.int .i64 1)))⟩, ⟨(some 12), none, (.mv (.t 102))⟩]) (.seq (.reg [⟨(some 103), none, (.mv (.t 13))⟩, 
  ⟨(some 104), none, (.bin .sub (.t 103) (.k (.int .i64 1)))⟩, ⟨(some 13), none, (.mv (.t 104))⟩]) (.seq (.block 4 (.loop (.block 5 (.seq (.block 6 (.loop (.seq (.seq 
  (.drw 0 [⟨⟨(some 105), none, (.mv (.t 12))⟩, .pure, [], []⟩, ⟨⟨(some 106), none, (.mv (.t 13))⟩, .pure, [], []⟩, 
  ⟨⟨(some 107), none, (.bin .leq (.t 105) (.t 106))⟩, .pure, [], []⟩, ⟨⟨(some 108), none, (.mv (.t 107))⟩, .pure, [], []⟩, 
  ⟨⟨(some 109), (some (108, true)), (.mv (.t 4))⟩, .pure, [], []⟩, ⟨⟨(some 110), (some (108, true)), (.mv (.t 0))⟩, .pure, [], []⟩, 
  ⟨⟨(some 111), (some (108, true)), (.mv (.t 12))⟩, .pure, [], []⟩, ⟨⟨(some 112), (some (108, true)), (.ixa 3 (.t 110) (.t 111))⟩, .pure, [], []⟩, 
  ⟨⟨(some 113), (some (108, true)), (.ld (some 3) (.t 112))⟩, .ld, [], []⟩, ⟨⟨(some 114), (some (108, true)), (.mv (.t 0))⟩, .pure, [8], []⟩, 
  ⟨⟨(some 115), (some (108, true)), (.mv (.t 1))⟩, .pure, [8], []⟩, ⟨⟨(some 116), (some (108, true)), (.ixa 3 (.t 114) (.t 115))⟩, .pure, [8], []⟩, 
  ⟨⟨(some 117), (some (108, true)), (.ld (some 3) (.t 116))⟩, .ld, [], []⟩, ⟨⟨(some 118), (some (108, true)), (.calld (.t 109) [(.t 113), (.t 117)])⟩, .eff, [], []⟩, 
  ⟨⟨(some 119), (some (108, true)), (.bin .lss (.t 118) (.k (.int .i64 0)))⟩, .pure, [], []⟩, ⟨⟨(some 120), none, (.pick (.t 108) (.t 119) (.k (.bool false)))⟩, .pure, [], []⟩]) 
  (.cond (.t 120) .skip (.exit 6))) (.block 7 (.reg [⟨(some 121), none, (.mv (.t 12))⟩, ⟨(some 122), none, (.bin .add (.t 121) (.k (.int .i64 1)))⟩, 
  ⟨(some 12), none, (.mv (.t 122))⟩]))))) (.seq (.block 8 (.loop (.seq (.seq (.drw 0 [⟨⟨(some 123), none, (.mv (.t 12))⟩, .pure, [], []⟩, 
  ⟨⟨(some 124), none, (.mv (.t 13))⟩, .pure, [], []⟩, ⟨⟨(some 125), none, (.bin .leq (.t 123) (.t 124))⟩, .pure, [], []⟩, ⟨⟨(some 126), none, (.mv (.t 125))⟩, .pure, [], []⟩, 
  ⟨⟨(some 127), (some (126, true)), (.mv (.t 4))⟩, .pure, [], []⟩, ⟨⟨(some 128), (some (126, true)), (.mv (.t 0))⟩, .pure, [], []⟩, 
  ⟨⟨(some 129), (some (126, true)), (.mv (.t 13))⟩, .pure, [], []⟩, ⟨⟨(some 130), (some (126, true)), (.ixa 3 (.t 128) (.t 129))⟩, .pure, [], []⟩, 
  ⟨⟨(some 131), (some (126, true)), (.ld (some 3) (.t 130))⟩, .ld, [], []⟩, ⟨⟨(some 132), (some (126, true)), (.mv (.t 0))⟩, .pure, [8], []⟩, 
  ⟨⟨(some 133), (some (126, true)), (.mv (.t 1))⟩, .pure, [8], []⟩, ⟨⟨(some 134), (some (126, true)), (.ixa 3 (.t 132) (.t 133))⟩, .pure, [8], []⟩, 
  ⟨⟨(some 135), (some (126, true)), (.ld (some 3) (.t 134))⟩, .ld, [], []⟩, ⟨⟨(some 136), (some (126, true)), (.calld (.t 127) [(.t 131), (.t 135)])⟩, .eff, [], []⟩, 
  ⟨⟨(some 137), (some (126, true)), (.bin .lss (.t 136) (.k (.int .i64 0)))⟩, .pure, [], []⟩, ⟨⟨(some 138), (some (126, true)), (.un .not (.t 137))⟩, .pure, [], []⟩, 
  ⟨⟨(some 139), none, (.pick (.t 126) (.t 138) (.k (.bool false)))⟩, .pure, [], []⟩]) (.cond (.t 139) .skip (.exit 8))) (.block 9 (.reg [⟨(some 140), none, (.mv (.t 13))⟩, 
  ⟨(some 141), none, (.bin .sub (.t 140) (.k (.int .i64 1)))⟩, ⟨(some 13), none, (.mv (.t 141))⟩]))))) (.seq (.seq (.reg [⟨(some 142), none, (.mv (.t 12))⟩, 
  ⟨(some 143), none, (.mv (.t 13))⟩, ⟨(some 144), none, (.bin .gtr (.t 142) (.t 143))⟩]) (.cond (.t 144) (.exit 4) .skip)) (.seq 
  (.drw 0 [⟨⟨(some 145), none, (.mv (.t 0))⟩, .pure, [], []⟩, ⟨⟨(some 146), none, (.mv (.t 12))⟩, .pure, [], []⟩, ⟨⟨(some 147), none, (.mv (.t 0))⟩, .pure, [], []⟩, 
  ⟨⟨(some 148), none, (.mv (.t 13))⟩, .pure, [], []⟩, ⟨⟨(some 149), none, (.mv (.t 0))⟩, .pure, [], []⟩, ⟨⟨(some 150), none, (.mv (.t 13))⟩, .pure, [], []⟩, 
  ⟨⟨(some 151), none, (.ixa 3 (.t 149) (.t 150))⟩, .pure, [], []⟩, ⟨⟨(some 152), none, (.ld (some 3) (.t 151))⟩, .ld, [], []⟩, ⟨⟨(some 153), none, (.mv (.t 0))⟩, .pure, [7], []⟩, 
  ⟨⟨(some 154), none, (.mv (.t 12))⟩, .pure, [7], []⟩, ⟨⟨(some 155), none, (.ixa 3 (.t 153) (.t 154))⟩, .pure, [7], []⟩, ⟨⟨(some 156), none, (.ld (some 3) (.t 155))⟩, .ld, [], []⟩, 
  ⟨⟨(some 157), none, (.ixa 3 (.t 145) (.t 146))⟩, .pure, [], []⟩, ⟨⟨none, none, (.st (some 3) (.t 157) (.t 152))⟩, .eff, [], []⟩, 
  ⟨⟨(some 158), none, (.ixa 3 (.t 147) (.t 148))⟩, .pure, [], []⟩, ⟨⟨none, none, (.st (some 3) (.t 158) (.t 156))⟩, .eff, [], []⟩]) (.seq (.reg [⟨(some 159), none, (.mv (.t 12))⟩, 
  ⟨(some 160), none, (.bin .add (.t 159) (.k (.int .i64 1)))⟩, ⟨(some 12), none, (.mv (.t 160))⟩]) (.reg [⟨(some 161), none, (.mv (.t 13))⟩, 
  ⟨(some 162), none, (.bin .sub (.t 161) (.k (.int .i64 1)))⟩, ⟨(some 13), none, (.mv (.t 162))⟩]))))))))) (.seq (.drw 0 [⟨⟨(some 163), none, (.mv (.t 0))⟩, .pure, [], []⟩, 
  ⟨⟨(some 164), none, (.mv (.t 13))⟩, .pure, [], []⟩, ⟨⟨(some 165), none, (.mv (.t 0))⟩, .pure, [], []⟩, ⟨⟨(some 166), none, (.mv (.t 1))⟩, .pure, [], []⟩, 
  ⟨⟨(some 167), none, (.mv (.t 0))⟩, .pure, [], []⟩, ⟨⟨(some 168), none, (.mv (.t 1))⟩, .pure, [], []⟩, ⟨⟨(some 169), none, (.ixa 3 (.t 167) (.t 168))⟩, .pure, [], []⟩, 
  ⟨⟨(some 170), none, (.ld (some 3) (.t 169))⟩, .ld, [], []⟩, ⟨⟨(some 171), none, (.mv (.t 0))⟩, .pure, [7], []⟩, ⟨⟨(some 172), none, (.mv (.t 13))⟩, .pure, [7], []⟩, 
  ⟨⟨(some 173), none, (.ixa 3 (.t 171) (.t 172))⟩, .pure, [7], []⟩, ⟨⟨(some 174), none, (.ld (some 3) (.t 173))⟩, .ld, [], []⟩, 
  ⟨⟨(some 175), none, (.ixa 3 (.t 163) (.t 164))⟩, .pure, [], []⟩, ⟨⟨none, none, (.st (some 3) (.t 175) (.t 170))⟩, .eff, [], []⟩, 
  ⟨⟨(some 176), none, (.ixa 3 (.t 165) (.t 166))⟩, .pure, [], []⟩, ⟨⟨none, none, (.st (some 3) (.t 176) (.t 174))⟩, .eff, [], []⟩]) (.seq (.reg [⟨(some 177), none, (.mv (.t 13))⟩, 
  ⟨(some 10), none, (.mv (.t 177))⟩, ⟨(some 11), none, (.mv (.k (.bool false)))⟩]) .ret))))))))))))⟩
theorem c_slices_partitionCmpFunc_Prefix : compF Try.prog ⟨some 67, some 66⟩ Try.f78 = some r_slices_partitionCmpFunc_Prefix := by kernel_rfl
/-- math/bits.Len32 -/
def r_bits_Len32 : RF :=
  ⟨19, [(.tmp 2)], (.seq (.reg [⟨(some 2), none, (.mv (.k (.int .i64 0)))⟩]) (.seq (.seq (.reg [⟨(some 3), none, (.mv (.t 0))⟩, 
  ⟨(some 4), none, (.bin .geq (.t 3) (.k (.int .u32 65536)))⟩]) (.cond (.t 4) (.seq (.reg [⟨(some 5), none, (.mv (.t 0))⟩, ⟨(some 6), none, (.bin .shr (.t 5) (.k (.int .u64 16)))⟩, 
  ⟨(some 0), none, (.mv (.t 6))⟩]) (.reg [⟨(some 2), none, (.mv (.k (.int .i64 16)))⟩])) .skip)) (.seq (.seq (.reg [⟨(some 7), none, (.mv (.t 0))⟩, 
  ⟨(some 8), none, (.bin .geq (.t 7) (.k (.int .u32 256)))⟩]) (.cond (.t 8) (.seq (.reg [⟨(some 9), none, (.mv (.t 0))⟩, ⟨(some 10), none, (.bin .shr (.t 9) (.k (.int .u64 8)))⟩, 
  ⟨(some 0), none, (.mv (.t 10))⟩]) (.reg [⟨(some 11), none, (.mv (.t 2))⟩, ⟨(some 12), none, (.bin .add (.t 11) (.k (.int .i64 8)))⟩, ⟨(some 2), none, (.mv (.t 12))⟩])) .skip)) 
  (.seq (.reg [⟨(some 13), none, (.mv (.t 2))⟩, ⟨(some 14), none, (.mv (.t 0))⟩, ⟨(some 15), none, (.cvi .u8 (.t 14))⟩, 
  ⟨(some 16), none, (.ixs (.k (.str (bts [0, 1, 2, 2, 3, 3, 3, 3, 4, 4, 4, 4, 4, 4, 4, 4, 5, 5, 5, 5, 5, 5, 5, 5, 5, 5, 5, 5, 5, 5, 5, 5, 6, 6, 6, 6, 6, 6, 6, 6, 6, 6, 6, 6, 6, 6, 6, 6, 6, 6, 6, 6, 6, 6, 6, 6, 6, 6, 6, 6, 6, 6, 6, 6, 7, 7, 7, 7, 7, 7, 7, 7, 7, 7, 7, 7, 7, 7, 7, 7, 7, 7, 7, 7, 7, 7, 7, 7, 7, 7, 7, 7, 7, 7, 7, 7, 7, 7, 7, 7, 7, 7, 7, 7, 7, 7, 7, 7, 7, 7, 7, 7, 7, 7, 7, 7, 7, 7, 7, 7, 7, 7, 7, 7, 7, 7, 7, 7, 8, 8, 8, 8, 8, 8, 8, 8, 8, 8, 8, 8, 8, 8, 8, 8, 8, 8, 8, 8, 8, 8, 8, 8, 8, 8, 8, 8, 8, 8, 8, 8, 8, 8, 8, 8, 8, 8, 8, 8, 8, 8, 8, 8, 8, 8, 8, 8, 8, 8, 8, 8, 8, 8, 8, 8, 8, 8, 8, 8, 8, 8, 8, 8, 8, 8, 8, 8, 8, 8, 8, 8, 8, 8, 8, 8, 8, 8, 8, 8, 8, 8, 8, 8, 8, 8, 8, 8, 8, 8, 8, 8, 8, 8, 8, 8, 8, 8, 8, 8, 8, 8, 8, 8, 8, 8, 8, 8, 8, 8, 8, 8, 8, 8, 8, 8, 8, 8, 8, 8, 8, 8, 8, 8, 8, 8, 8, 8]))) (.t 15))⟩, 
  ⟨(some 17), none, (.cvi .i64 (.t 16))⟩, ⟨(some 18), none, (.bin .add (.t 13) (.t 17))⟩, ⟨(some 2), none, (.mv (.t 18))⟩]) .ret))))⟩
theorem c_bits_Len32 : compF Try.prog ⟨some 67, some 66⟩ Try.f79 = some r_bits_Len32 := by kernel_rfl
/-- math/bits.Len64 -/
def r_bits_Len64 : RF :=
  ⟨25, [(.tmp 2)], (.seq (.reg [⟨(some 2), none, (.mv (.k (.int .i64 0)))⟩]) (.seq (.seq (.reg [⟨(some 3), none, (.mv (.t 0))⟩, 
  ⟨(some 4), none, (.bin .geq (.t 3) (.k (.int .u64 4294967296)))⟩]) (.cond (.t 4) (.seq (.reg [⟨(some 5), none, (.mv (.t 0))⟩, 
  ⟨(some 6), none, (.bin .shr (.t 5) (.k (.int .u64 32)))⟩, ⟨(some 0), none, (.mv (.t 6))⟩]) (.reg [⟨(some 2), none, (.mv (.k (.int .i64 32)))⟩])) .skip)) (.seq (.seq 
  (.reg [⟨(some 7), none, (.mv (.t 0))⟩, ⟨(some 8), none, (.bin .geq (.t 7) (.k (.int .u64 65536)))⟩]) (.cond (.t 8) (.seq (.reg [⟨(some 9), none, (.mv (.t 0))⟩, 
  ⟨(some 10), none, (.bin .shr (.t 9) (.k (.int .u64 16)))⟩, ⟨(some 0), none, (.mv (.t 10))⟩]) (.reg [⟨(some 11), none, (.mv (.t 2))⟩, 
  ⟨(some 12), none, (.bin .add (.t 11) (.k (.int .i64 16)))⟩, ⟨(some 2), none, (.mv (.t 12))⟩])) .skip)) (.seq (.seq (.reg [⟨(some 13), none, (.mv (.t 0))⟩, 
  ⟨(some 14), none, (.bin .geq (.t 13) (.k (.int .u64 256)))⟩]) (.cond (.t 14) (.seq (.reg [⟨(some 15), none, (.mv (.t 0))⟩, 
  ⟨(some 16), none, (.bin .shr (.t 15) (.k (.int .u64 8)))⟩, ⟨(some 0), none, (.mv (.t 16))⟩]) (.reg [⟨(some 17), none, (.mv (.t 2))⟩, 
  ⟨(some 18), none, (.bin .add (.t 17) (.k (.int .i64 8)))⟩, ⟨(some 2), none, (.mv (.t 18))⟩])) .skip)) (.seq (.reg [⟨(some 19), none, (.mv (.t 2))⟩, 
  ⟨(some 20), none, (.mv (.t 0))⟩, ⟨(some 21), none, (.cvi .u8 (.t 20))⟩, 
  ⟨(some 22), none, (.ixs (.k (.str (bts [0, 1, 2, 2, 3, 3, 3, 3, 4, 4, 4, 4, 4, 4, 4, 4, 5, 5, 5, 5, 5, 5, 5, 5, 5, 5, 5, 5, 5, 5, 5, 5, 6, 6, 6, 6, 6, 6, 6, 6, 6, 6, 6, 6, 6, 6, 6, 6, 6, 6, 6, 6, 6, 6, 6, 6, 6, 6, 6, 6, 6, 6, 6, 6, 7, 7, 7, 7, 7, 7, 7, 7, 7, 7, 7, 7, 7, 7, 7, 7, 7, 7, 7, 7, 7, 7, 7, 7, 7, 7, 7, 7, 7, 7, 7, 7, 7, 7, 7, 7, 7, 7, 7, 7, 7, 7, 7, 7, 7, 7, 7, 7, 7, 7, 7, 7, 7, 7, 7, 7, 7, 7, 7, 7, 7, 7, 7, 7, 8, 8, 8, 8, 8, 8, 8, 8, 8, 8, 8, 8, 8, 8, 8, 8, 8, 8, 8, 8, 8, 8, 8, 8, 8, 8, 8, 8, 8, 8, 8, 8, 8, 8, 8, 8, 8, 8, 8, 8, 8, 8, 8, 8, 8, 8, 8, 8, 8, 8, 8, 8, 8, 8, 8, 8, 8, 8, 8, 8, 8, 8, 8, 8, 8, 8, 8, 8, 8, 8, 8, 8, 8, 8, 8, 8, 8, 8, 8, 8, 8, 8, 8, 8, 8, 8, 8, 8, 8, 8, 8, 8, 8, 8, 8, 8, 8, 8, 8, 8, 8, 8, 8, 8, 8, 8, 8, 8, 8, 8, 8, 8, 8, 8, 8, 8, 8, 8, 8, 8, 8, 8, 8, 8, 8, 8, 8, 8]))) (.t 21))⟩, 
  ⟨(some 23), none, (.cvi .i64 (.t 22))⟩, ⟨(some 24), none, (.bin .add (.t 19) (.t 23))⟩, ⟨(some 2), none, (.mv (.t 24))⟩]) .ret)))))⟩
theorem c_bits_Len64 : compF Try.prog ⟨some 67, some 66⟩ Try.f80 = some r_bits_Len64 := by kernel_rfl
/-- slices.siftDownCmpFunc[tenancy/api.Prefix] -/
def r_slices_siftDownCmpFunc_Prefix : RF :=
  ⟨82, [], (.seq (.reg [⟨(some 12), none, (.mv (.t 1))⟩, ⟨(some 10), none, (.mv (.t 12))⟩]) (.block 0 (.loop (.block 1 (.seq (.reg [⟨(some 13), none, (.mv (.t 10))⟩, 
  ⟨(some 14), none, (.bin .mul (.k (.int .i64 2)) (.t 13))⟩, ⟨(some 15), none, (.bin .add (.t 14) (.k (.int .i64 1)))⟩, ⟨(some 11), none, (.mv (.t 15))⟩]) (.seq (.seq 
  (.reg [⟨(some 16), none, (.mv (.t 11))⟩, ⟨(some 17), none, (.mv (.t 2))⟩, ⟨(some 18), none, (.bin .geq (.t 16) (.t 17))⟩]) (.cond (.t 18) (.exit 0) .skip)) (.seq (.seq 
  (.drw 0 [⟨⟨(some 19), none, (.mv (.t 11))⟩, .pure, [], []⟩, ⟨⟨(some 20), none, (.bin .add (.t 19) (.k (.int .i64 1)))⟩, .pure, [], []⟩, 
  ⟨⟨(some 21), none, (.mv (.t 2))⟩, .pure, [], []⟩, ⟨⟨(some 22), none, (.bin .lss (.t 20) (.t 21))⟩, .pure, [], []⟩, ⟨⟨(some 23), none, (.mv (.t 22))⟩, .pure, [], []⟩, 
  ⟨⟨(some 24), (some (23, true)), (.mv (.t 4))⟩, .pure, [], []⟩, ⟨⟨(some 25), (some (23, true)), (.mv (.t 0))⟩, .pure, [], []⟩, 
  ⟨⟨(some 26), (some (23, true)), (.mv (.t 3))⟩, .pure, [], []⟩, ⟨⟨(some 27), (some (23, true)), (.mv (.t 11))⟩, .pure, [], []⟩, 
  ⟨⟨(some 28), (some (23, true)), (.bin .add (.t 26) (.t 27))⟩, .pure, [], []⟩, ⟨⟨(some 29), (some (23, true)), (.ixa 3 (.t 25) (.t 28))⟩, .pure, [], []⟩, 
  ⟨⟨(some 30), (some (23, true)), (.ld (some 3) (.t 29))⟩, .ld, [], []⟩, ⟨⟨(some 31), (some (23, true)), (.mv (.t 0))⟩, .pure, [11], []⟩, 
  ⟨⟨(some 32), (some (23, true)), (.mv (.t 3))⟩, .pure, [11], []⟩, ⟨⟨(some 33), (some (23, true)), (.mv (.t 11))⟩, .pure, [11], []⟩, 
  ⟨⟨(some 34), (some (23, true)), (.bin .add (.t 32) (.t 33))⟩, .pure, [11], []⟩, ⟨⟨(some 35), (some (23, true)), (.bin .add (.t 34) (.k (.int .i64 1)))⟩, .pure, [11], []⟩, 
  ⟨⟨(some 36), (some (23, true)), (.ixa 3 (.t 31) (.t 35))⟩, .pure, [11], []⟩, ⟨⟨(some 37), (some (23, true)), (.ld (some 3) (.t 36))⟩, .ld, [], []⟩, 
  ⟨⟨(some 38), (some (23, true)), (.calld (.t 24) [(.t 30), (.t 37)])⟩, .eff, [], []⟩, ⟨⟨(some 39), (some (23, true)), (.bin .lss (.t 38) (.k (.int .i64 0)))⟩, .pure, [], []⟩, 
  ⟨⟨(some 40), none, (.pick (.t 23) (.t 39) (.k (.bool false)))⟩, .pure, [], []⟩]) (.cond (.t 40) (.reg [⟨(some 41), none, (.mv (.t 11))⟩, 
  ⟨(some 42), none, (.bin .add (.t 41) (.k (.int .i64 1)))⟩, ⟨(some 11), none, (.mv (.t 42))⟩]) .skip)) (.seq (.seq (.drw 0 [⟨⟨(some 43), none, (.mv (.t 4))⟩, .pure, [], []⟩, 
  ⟨⟨(some 44), none, (.mv (.t 0))⟩, .pure, [], []⟩, ⟨⟨(some 45), none, (.mv (.t 3))⟩, .pure, [], []⟩, ⟨⟨(some 46), none, (.mv (.t 10))⟩, .pure, [], []⟩, 
  ⟨⟨(some 47), none, (.bin .add (.t 45) (.t 46))⟩, .pure, [], []⟩, ⟨⟨(some 48), none, (.ixa 3 (.t 44) (.t 47))⟩, .pure, [], []⟩, 
  ⟨⟨(some 49), none, (.ld (some 3) (.t 48))⟩, .ld, [], []⟩, ⟨⟨(some 50), none, (.mv (.t 0))⟩, .pure, [6], []⟩, ⟨⟨(some 51), none, (.mv (.t 3))⟩, .pure, [6], []⟩, 
  ⟨⟨(some 52), none, (.mv (.t 11))⟩, .pure, [6], []⟩, ⟨⟨(some 53), none, (.bin .add (.t 51) (.t 52))⟩, .pure, [6], []⟩, 
  ⟨⟨(some 54), none, (.ixa 3 (.t 50) (.t 53))⟩, .pure, [6], []⟩, ⟨⟨(some 55), none, (.ld (some 3) (.t 54))⟩, .ld, [], []⟩, 
  ⟨⟨(some 56), none, (.calld (.t 43) [(.t 49), (.t 55)])⟩, .eff, [], []⟩, ⟨⟨(some 57), none, (.bin .lss (.t 56) (.k (.int .i64 0)))⟩, .pure, [], []⟩, 
  ⟨⟨(some 58), none, (.un .not (.t 57))⟩, .pure, [], []⟩]) (.cond (.t 58) .ret .skip)) (.seq (.drw 0 [⟨⟨(some 59), none, (.mv (.t 0))⟩, .pure, [], []⟩, 
  ⟨⟨(some 60), none, (.mv (.t 3))⟩, .pure, [], []⟩, ⟨⟨(some 61), none, (.mv (.t 10))⟩, .pure, [], []⟩, ⟨⟨(some 62), none, (.bin .add (.t 60) (.t 61))⟩, .pure, [], []⟩, 
  ⟨⟨(some 63), none, (.mv (.t 0))⟩, .pure, [], []⟩, ⟨⟨(some 64), none, (.mv (.t 3))⟩, .pure, [], []⟩, ⟨⟨(some 65), none, (.mv (.t 11))⟩, .pure, [], []⟩, 
  ⟨⟨(some 66), none, (.bin .add (.t 64) (.t 65))⟩, .pure, [], []⟩, ⟨⟨(some 67), none, (.mv (.t 0))⟩, .pure, [], []⟩, ⟨⟨(some 68), none, (.mv (.t 3))⟩, .pure, [], []⟩, 
  ⟨⟨(some 69), none, (.mv (.t 11))⟩, .pure, [], []⟩, ⟨⟨(some 70), none, (.bin .add (.t 68) (.t 69))⟩, .pure, [], []⟩, ⟨⟨(some 71), none, (.ixa 3 (.t 67) (.t 70))⟩, .pure, [], []⟩, 
  ⟨⟨(some 72), none, (.ld (some 3) (.t 71))⟩, .ld, [], []⟩, ⟨⟨(some 73), none, (.mv (.t 0))⟩, .pure, [13], []⟩, ⟨⟨(some 74), none, (.mv (.t 3))⟩, .pure, [13], []⟩, 
  ⟨⟨(some 75), none, (.mv (.t 10))⟩, .pure, [13], []⟩, ⟨⟨(some 76), none, (.bin .add (.t 74) (.t 75))⟩, .pure, [13], []⟩, 
  ⟨⟨(some 77), none, (.ixa 3 (.t 73) (.t 76))⟩, .pure, [13], []⟩, ⟨⟨(some 78), none, (.ld (some 3) (.t 77))⟩, .ld, [], []⟩, 
  ⟨⟨(some 79), none, (.ixa 3 (.t 59) (.t 62))⟩, .pure, [], []⟩, ⟨⟨none, none, (.st (some 3) (.t 79) (.t 72))⟩, .eff, [], []⟩, 
  ⟨⟨(some 80), none, (.ixa 3 (.t 63) (.t 66))⟩, .pure, [], []⟩, ⟨⟨none, none, (.st (some 3) (.t 80) (.t 78))⟩, .eff, [], []⟩]) (.reg [⟨(some 81), none, (.mv (.t 11))⟩, 
  ⟨(some 10), none, (.mv (.t 81))⟩]))))))))))⟩
theorem c_slices_siftDownCmpFunc_Prefix : compF Try.prog ⟨some 67, some 66⟩ Try.f81 = some r_slices_siftDownCmpFunc_Prefix := by kernel_rfl
/-- slices.nextPowerOfTwo -/
def r_slices_nextPowerOfTwo : RF :=
  ⟨7, [(.tmp 2)], (.seq (.reg [⟨(some 2), none, (.mv (.k (.int .u64 0)))⟩]) (.seq (.reg [⟨(some 3), none, (.mv (.t 0))⟩, ⟨(some 4), none, (.cvi .u64 (.t 3))⟩, 
  ⟨(some 5), none, (.call f_bits_Len [(.t 4)])⟩, ⟨(some 6), none, (.bin .shl (.k (.int .u64 1)) (.t 5))⟩, ⟨(some 2), none, (.mv (.t 6))⟩]) .ret))⟩
theorem c_slices_nextPowerOfTwo : compF Try.prog ⟨some 67, some 66⟩ Try.f82 = some r_slices_nextPowerOfTwo := by kernel_rfl
/-- (*slices.xorshift).Next -/
def r_slices_xorshift_Next : RF :=
  ⟨33, [(.tmp 2)], (.seq (.reg [⟨(some 2), none, (.mv (.k (.int .u64 0)))⟩]) (.seq (.drw 0 [⟨⟨(some 3), none, (.mv (.t 0))⟩, .pure, [], []⟩, 
  ⟨⟨(some 4), none, (.nck (.t 3))⟩, .pure, [], []⟩, ⟨⟨(some 5), none, (.ld none (.t 4))⟩, .ld, [], []⟩, ⟨⟨(some 6), none, (.mv (.t 0))⟩, .pure, [2], []⟩, 
  ⟨⟨(some 7), none, (.nck (.t 6))⟩, .pure, [2], []⟩, ⟨⟨(some 8), none, (.ld none (.t 7))⟩, .ld, [], []⟩, ⟨⟨(some 9), none, (.bin .shl (.t 8) (.k (.int .u64 13)))⟩, .pure, [2], []⟩, 
  ⟨⟨(some 10), none, (.bin .xor (.t 5) (.t 9))⟩, .pure, [], []⟩, ⟨⟨(some 11), none, (.nck (.t 3))⟩, .pure, [], []⟩, ⟨⟨none, none, (.st none (.t 11) (.t 10))⟩, .eff, [], []⟩]) (.seq 
  (.drw 0 [⟨⟨(some 12), none, (.mv (.t 0))⟩, .pure, [], []⟩, ⟨⟨(some 13), none, (.nck (.t 12))⟩, .pure, [], []⟩, ⟨⟨(some 14), none, (.ld none (.t 13))⟩, .ld, [], []⟩, 
  ⟨⟨(some 15), none, (.mv (.t 0))⟩, .pure, [2], []⟩, ⟨⟨(some 16), none, (.nck (.t 15))⟩, .pure, [2], []⟩, ⟨⟨(some 17), none, (.ld none (.t 16))⟩, .ld, [], []⟩, 
  ⟨⟨(some 18), none, (.bin .shr (.t 17) (.k (.int .u64 7)))⟩, .pure, [2], []⟩, ⟨⟨(some 19), none, (.bin .xor (.t 14) (.t 18))⟩, .pure, [], []⟩, 
  ⟨⟨(some 20), none, (.nck (.t 12))⟩, .pure, [], []⟩, ⟨⟨none, none, (.st none (.t 20) (.t 19))⟩, .eff, [], []⟩]) (.seq (.drw 0 [⟨⟨(some 21), none, (.mv (.t 0))⟩, .pure, [], []⟩, 
  ⟨⟨(some 22), none, (.nck (.t 21))⟩, .pure, [], []⟩, ⟨⟨(some 23), none, (.ld none (.t 22))⟩, .ld, [], []⟩, ⟨⟨(some 24), none, (.mv (.t 0))⟩, .pure, [2], []⟩, 
  ⟨⟨(some 25), none, (.nck (.t 24))⟩, .pure, [2], []⟩, ⟨⟨(some 26), none, (.ld none (.t 25))⟩, .ld, [], []⟩, 
  ⟨⟨(some 27), none, (.bin .shl (.t 26) (.k (.int .u64 17)))⟩, .pure, [2], []⟩, ⟨⟨(some 28), none, (.bin .xor (.t 23) (.t 27))⟩, .pure, [], []⟩, 
  ⟨⟨(some 29), none, (.nck (.t 21))⟩, .pure, [], []⟩, ⟨⟨none, none, (.st none (.t 29) (.t 28))⟩, .eff, [], []⟩]) (.seq (.reg [⟨(some 30), none, (.mv (.t 0))⟩, 
  ⟨(some 31), none, (.nck (.t 30))⟩, ⟨(some 32), none, (.ld none (.t 31))⟩, ⟨(some 2), none, (.mv (.t 32))⟩]) .ret)))))⟩
theorem c_slices_xorshift_Next : compF Try.prog ⟨some 67, some 66⟩ Try.f83 = some r_slices_xorshift_Next := by kernel_rfl
/-- slices.medianAdjacentCmpFunc[tenancy/api.Prefix] -/
def r_slices_medianAdjacentCmpFunc_Prefix : RF :=
  ⟨18, [(.tmp 8)], (.seq (.reg [⟨(some 8), none, (.mv (.k (.int .i64 0)))⟩]) (.seq (.reg [⟨(some 9), none, (.mv (.t 0))⟩, ⟨(some 10), none, (.mv (.t 1))⟩, 
  ⟨(some 11), none, (.bin .sub (.t 10) (.k (.int .i64 1)))⟩, ⟨(some 12), none, (.mv (.t 1))⟩, ⟨(some 13), none, (.mv (.t 1))⟩, 
  ⟨(some 14), none, (.bin .add (.t 13) (.k (.int .i64 1)))⟩, ⟨(some 15), none, (.mv (.t 2))⟩, ⟨(some 16), none, (.mv (.t 3))⟩, 
  ⟨(some 17), none, (.call f_slices_medianCmpFunc_Prefix [(.t 9), (.t 11), (.t 12), (.t 14), (.t 15), (.t 16)])⟩, ⟨(some 8), none, (.mv (.t 17))⟩]) .ret))⟩
theorem c_slices_medianAdjacentCmpFunc_Prefix : compF Try.prog ⟨some 67, some 66⟩ Try.f84 = some r_slices_medianAdjacentCmpFunc_Prefix := by kernel_rfl
/-- slices.medianCmpFunc[tenancy/api.Prefix] -/
def r_slices_medianCmpFunc_Prefix : RF :=
  ⟨41, [(.tmp 12)], (.seq (.reg [⟨(some 12), none, (.mv (.k (.int .i64 0)))⟩]) (.seq (.reg [⟨(some 14), none, (.mv (.t 0))⟩, ⟨(some 15), none, (.mv (.t 1))⟩, 
  ⟨(some 16), none, (.mv (.t 2))⟩, ⟨(some 17), none, (.mv (.t 4))⟩, ⟨(some 18), none, (.mv (.t 5))⟩, 
  ⟨(some 19), none, (.call f_slices_order2CmpFunc_Prefix [(.t 14), (.t 15), (.t 16), (.t 17), (.t 18)])⟩, ⟨(some 13), none, (.mv (.t 19))⟩, ⟨(some 20), none, (.ext 0 (.t 13))⟩, 
  ⟨(some 21), none, (.ext 1 (.t 13))⟩, ⟨(some 1), none, (.mv (.t 20))⟩, ⟨(some 2), none, (.mv (.t 21))⟩]) (.seq (.reg [⟨(some 23), none, (.mv (.t 0))⟩, 
  ⟨(some 24), none, (.mv (.t 2))⟩, ⟨(some 25), none, (.mv (.t 3))⟩, ⟨(some 26), none, (.mv (.t 4))⟩, ⟨(some 27), none, (.mv (.t 5))⟩, 
  ⟨(some 28), none, (.call f_slices_order2CmpFunc_Prefix [(.t 23), (.t 24), (.t 25), (.t 26), (.t 27)])⟩, ⟨(some 22), none, (.mv (.t 28))⟩, ⟨(some 29), none, (.ext 0 (.t 22))⟩, 
  ⟨(some 30), none, (.ext 1 (.t 22))⟩, ⟨(some 2), none, (.mv (.t 29))⟩, ⟨(some 3), none, (.mv (.t 30))⟩]) (.seq (.reg [⟨(some 32), none, (.mv (.t 0))⟩, 
  ⟨(some 33), none, (.mv (.t 1))⟩, ⟨(some 34), none, (.mv (.t 2))⟩, ⟨(some 35), none, (.mv (.t 4))⟩, ⟨(some 36), none, (.mv (.t 5))⟩, 
  ⟨(some 37), none, (.call f_slices_order2CmpFunc_Prefix [(.t 32), (.t 33), (.t 34), (.t 35), (.t 36)])⟩, ⟨(some 31), none, (.mv (.t 37))⟩, ⟨(some 38), none, (.ext 0 (.t 31))⟩, 
  ⟨(some 39), none, (.ext 1 (.t 31))⟩, ⟨(some 1), none, (.mv (.t 38))⟩, ⟨(some 2), none, (.mv (.t 39))⟩]) (.seq (.reg [⟨(some 40), none, (.mv (.t 2))⟩, 
  ⟨(some 12), none, (.mv (.t 40))⟩]) .ret)))))⟩
theorem c_slices_medianCmpFunc_Prefix : compF Try.prog ⟨some 67, some 66⟩ Try.f85 = some r_slices_medianCmpFunc_Prefix := by kernel_rfl
/-- slices.order2CmpFunc[tenancy/api.Prefix] -/
def r_slices_order2CmpFunc_Prefix : RF :=
  ⟨32, [(.tmp 10), (.tmp 11)], (.seq (.reg [⟨(some 10), none, (.mv (.k (.int .i64 0)))⟩, ⟨(some 11), none, (.mv (.k (.int .i64 0)))⟩]) (.seq (.seq 
  (.drw 0 [⟨⟨(some 12), none, (.mv (.t 4))⟩, .pure, [], []⟩, ⟨⟨(some 13), none, (.mv (.t 0))⟩, .pure, [], []⟩, ⟨⟨(some 14), none, (.mv (.t 2))⟩, .pure, [], []⟩, 
  ⟨⟨(some 15), none, (.ixa 3 (.t 13) (.t 14))⟩, .pure, [], []⟩, ⟨⟨(some 16), none, (.ld (some 3) (.t 15))⟩, .ld, [], []⟩, ⟨⟨(some 17), none, (.mv (.t 0))⟩, .pure, [4], []⟩, 
  ⟨⟨(some 18), none, (.mv (.t 1))⟩, .pure, [4], []⟩, ⟨⟨(some 19), none, (.ixa 3 (.t 17) (.t 18))⟩, .pure, [4], []⟩, ⟨⟨(some 20), none, (.ld (some 3) (.t 19))⟩, .ld, [], []⟩, 
  ⟨⟨(some 21), none, (.calld (.t 12) [(.t 16), (.t 20)])⟩, .eff, [], []⟩, ⟨⟨(some 22), none, (.bin .lss (.t 21) (.k (.int .i64 0)))⟩, .pure, [], []⟩]) (.cond (.t 22) (.seq 
  (.reg [⟨(some 23), none, (.mv (.t 3))⟩, ⟨(some 24), none, (.nck (.t 23))⟩, ⟨(some 25), none, (.ld none (.t 24))⟩, ⟨(some 26), none, (.bin .add (.t 25) (.k (.int .i64 1)))⟩, 
  ⟨(some 27), none, (.nck (.t 23))⟩, ⟨none, none, (.st none (.t 27) (.t 26))⟩]) (.seq (.reg [⟨(some 28), none, (.mv (.t 2))⟩, ⟨(some 29), none, (.mv (.t 1))⟩, 
  ⟨(some 10), none, (.mv (.t 28))⟩, ⟨(some 11), none, (.mv (.t 29))⟩]) .ret)) .skip)) (.seq (.reg [⟨(some 30), none, (.mv (.t 1))⟩, ⟨(some 31), none, (.mv (.t 2))⟩, 
  ⟨(some 10), none, (.mv (.t 30))⟩, ⟨(some 11), none, (.mv (.t 31))⟩]) .ret)))⟩
theorem c_slices_order2CmpFunc_Prefix : compF Try.prog ⟨some 67, some 66⟩ Try.f86 = some r_slices_order2CmpFunc_Prefix := by kernel_rfl
def ex0 : Ex := ⟨some 67, some 66⟩
def tbl : List (Nat × RF) := [(f_gosem_cut_init, r_gosem_cut_init), (f_w11_BuddyExact, r_w11_BuddyExact), (f_w11_BuddyBack, r_w11_BuddyBack), (f_w11_BuddyMemory, r_w11_BuddyMemory), (f_w11_BuddyRow, r_w11_BuddyRow), (f_w11_awake, r_w11_awake), (f_buddy_Sound, r_buddy_Sound), (f_r11_Sound, r_r11_Sound), (f_buddy_Fits, r_buddy_Fits), (f_r11_Fits, r_r11_Fits), (f_buddy_Take, r_buddy_Take), (f_r11_Take, r_r11_Take), (f_w11_same, r_w11_same), (f_buddy_Reserve, r_buddy_Reserve), (f_r11_Reserve, r_r11_Reserve), (f_buddy_Give, r_buddy_Give), (f_r11_Give, r_r11_Give), (f_buddy_Free, r_buddy_Free), (f_r11_Free, r_r11_Free), (f_w11_block, r_w11_block), (f_addr_Sound, r_addr_Sound), (f_addr_Covers, r_addr_Covers), (f_w11_apart, r_w11_apart), (f_addr_Span, r_addr_Span), (f_buddy_buddyOf, r_buddy_buddyOf), (f_addr_Cmp, r_addr_Cmp), (f_r01_Sound, r_r01_Sound), (f_r01_Covers, r_r01_Covers), (f_r01_Cmp, r_r01_Cmp), (f_r01_Meets, r_r01_Meets), (f_r11_pair, r_r11_pair), (f_slices_ContainsFunc_Prefix, r_slices_ContainsFunc_Prefix), (f_buddy_Fits_1, r_buddy_Fits_1), (f_buddy_without, r_buddy_without), (f_r11_rest, r_r11_rest), (f_slices_IndexFunc_Prefix, r_slices_IndexFunc_Prefix), (f_buddy_Reserve_1, r_buddy_Reserve_1), (f_r11_covered, r_r11_covered), (f_buddy_Give_1, r_buddy_Give_1), (f_addr_Meets, r_addr_Meets), (f_slices_Clone_Prefix, r_slices_Clone_Prefix), (f_slices_Index_Prefix, r_slices_Index_Prefix), (f_slices_Delete_Prefix, r_slices_Delete_Prefix), (f_addr_Clip, r_addr_Clip), (f_slices_SortFunc_Prefix, r_slices_SortFunc_Prefix), (f_buddy_compare, r_buddy_compare), (f_r11_met, r_r11_met), (f_buddy_Free_1, r_buddy_Free_1), (f_addr_Has, r_addr_Has), (f_addr_Sub, r_addr_Sub), (f_addr_Add, r_addr_Add), (f_addr_Down, r_addr_Down), (f_addr_Halves, r_addr_Halves), (f_cmp_Or_int, r_cmp_Or_int), (f_cmp_Compare_uint64, r_cmp_Compare_uint64), (f_r01_Clip, r_r01_Clip), (f_r01_Has, r_r01_Has), (f_r01_bit, r_r01_bit), (f_slices_Concat_Prefix, r_slices_Concat_Prefix), (f_buddy_split, r_buddy_split), (f_r01_Halves, r_r01_Halves), (f_addr_Up, r_addr_Up), (f_slices_pdqsortCmpFunc_Prefix, r_slices_pdqsortCmpFunc_Prefix), (f_bits_Len, r_bits_Len), (f_cmp_isNaN_uint64, r_cmp_isNaN_uint64), (f_r01_with, r_r01_with), (f_slices_Grow_Prefix, r_slices_Grow_Prefix), (f_slices_insertionSortCmpFunc_Prefix, r_slices_insertionSortCmpFunc_Prefix), (f_slices_heapSortCmpFunc_Prefix, r_slices_heapSortCmpFunc_Prefix), (f_slices_breakPatternsCmpFunc_Prefix, r_slices_breakPatternsCmpFunc_Prefix), (f_slices_choosePivotCmpFunc_Prefix, r_slices_choosePivotCmpFunc_Prefix), (f_slices_reverseRangeCmpFunc_Prefix, r_slices_reverseRangeCmpFunc_Prefix), (f_slices_partialInsertionSortCmpFunc_Prefix, r_slices_partialInsertionSortCmpFunc_Prefix), (f_slices_partitionEqualCmpFunc_Prefix, r_slices_partitionEqualCmpFunc_Prefix), (f_slices_partitionCmpFunc_Prefix, r_slices_partitionCmpFunc_Prefix), (f_bits_Len32, r_bits_Len32), (f_bits_Len64, r_bits_Len64), (f_slices_siftDownCmpFunc_Prefix, r_slices_siftDownCmpFunc_Prefix), (f_slices_nextPowerOfTwo, r_slices_nextPowerOfTwo), (f_slices_xorshift_Next, r_slices_xorshift_Next), (f_slices_medianAdjacentCmpFunc_Prefix, r_slices_medianAdjacentCmpFunc_Prefix), (f_slices_medianCmpFunc_Prefix, r_slices_medianCmpFunc_Prefix), (f_slices_order2CmpFunc_Prefix, r_slices_order2CmpFunc_Prefix)]
def T (f : Nat) : Option RF := tbl.lookup f
theorem lookup_mem {f : Nat} {F : RF} : ∀ {l : List (Nat × RF)}, l.lookup f = some F → (f, F) ∈ l
  | [], h => by simp at h
  | (g, G) :: l, h => by
    simp only [List.lookup] at h
    split at h
    · rename_i he; simp at he h; subst he; subst h; simp
    · exact List.mem_cons_of_mem _ (lookup_mem h)
structure TF (x : Nat × RF) : Prop where
  ok : ∃ fn, Try.prog.funcs[x.1]? = some fn ∧ (fn.name == "runtime.NumGoroutine") = false ∧ compF Try.prog ex0 fn = some x.2
theorem k_gosem_cut_init : TF (f_gosem_cut_init, r_gosem_cut_init) := ⟨Try.f2, Try.func2, by kernel_rfl, c_gosem_cut_init⟩
theorem k_w11_BuddyExact : TF (f_w11_BuddyExact, r_w11_BuddyExact) := ⟨Try.f3, Try.func3, by kernel_rfl, c_w11_BuddyExact⟩
theorem k_w11_BuddyBack : TF (f_w11_BuddyBack, r_w11_BuddyBack) := ⟨Try.f4, Try.func4, by kernel_rfl, c_w11_BuddyBack⟩
theorem k_w11_BuddyMemory : TF (f_w11_BuddyMemory, r_w11_BuddyMemory) := ⟨Try.f5, Try.func5, by kernel_rfl, c_w11_BuddyMemory⟩
theorem k_w11_BuddyRow : TF (f_w11_BuddyRow, r_w11_BuddyRow) := ⟨Try.f6, Try.func6, by kernel_rfl, c_w11_BuddyRow⟩
theorem k_w11_awake : TF (f_w11_awake, r_w11_awake) := ⟨Try.f7, Try.func7, by kernel_rfl, c_w11_awake⟩
theorem k_buddy_Sound : TF (f_buddy_Sound, r_buddy_Sound) := ⟨Try.f8, Try.func8, by kernel_rfl, c_buddy_Sound⟩
theorem k_r11_Sound : TF (f_r11_Sound, r_r11_Sound) := ⟨Try.f9, Try.func9, by kernel_rfl, c_r11_Sound⟩
theorem k_buddy_Fits : TF (f_buddy_Fits, r_buddy_Fits) := ⟨Try.f10, Try.func10, by kernel_rfl, c_buddy_Fits⟩
theorem k_r11_Fits : TF (f_r11_Fits, r_r11_Fits) := ⟨Try.f11, Try.func11, by kernel_rfl, c_r11_Fits⟩
theorem k_buddy_Take : TF (f_buddy_Take, r_buddy_Take) := ⟨Try.f12, Try.func12, by kernel_rfl, c_buddy_Take⟩
theorem k_r11_Take : TF (f_r11_Take, r_r11_Take) := ⟨Try.f13, Try.func13, by kernel_rfl, c_r11_Take⟩
theorem k_w11_same : TF (f_w11_same, r_w11_same) := ⟨Try.f14, Try.func14, by kernel_rfl, c_w11_same⟩
theorem k_buddy_Reserve : TF (f_buddy_Reserve, r_buddy_Reserve) := ⟨Try.f15, Try.func15, by kernel_rfl, c_buddy_Reserve⟩
theorem k_r11_Reserve : TF (f_r11_Reserve, r_r11_Reserve) := ⟨Try.f16, Try.func16, by kernel_rfl, c_r11_Reserve⟩
theorem k_buddy_Give : TF (f_buddy_Give, r_buddy_Give) := ⟨Try.f17, Try.func17, by kernel_rfl, c_buddy_Give⟩
theorem k_r11_Give : TF (f_r11_Give, r_r11_Give) := ⟨Try.f18, Try.func18, by kernel_rfl, c_r11_Give⟩
theorem k_buddy_Free : TF (f_buddy_Free, r_buddy_Free) := ⟨Try.f19, Try.func19, by kernel_rfl, c_buddy_Free⟩
theorem k_r11_Free : TF (f_r11_Free, r_r11_Free) := ⟨Try.f20, Try.func20, by kernel_rfl, c_r11_Free⟩
theorem k_w11_block : TF (f_w11_block, r_w11_block) := ⟨Try.f21, Try.func21, by kernel_rfl, c_w11_block⟩
theorem k_addr_Sound : TF (f_addr_Sound, r_addr_Sound) := ⟨Try.f22, Try.func22, by kernel_rfl, c_addr_Sound⟩
theorem k_addr_Covers : TF (f_addr_Covers, r_addr_Covers) := ⟨Try.f23, Try.func23, by kernel_rfl, c_addr_Covers⟩
theorem k_w11_apart : TF (f_w11_apart, r_w11_apart) := ⟨Try.f24, Try.func24, by kernel_rfl, c_w11_apart⟩
theorem k_addr_Span : TF (f_addr_Span, r_addr_Span) := ⟨Try.f25, Try.func25, by kernel_rfl, c_addr_Span⟩
theorem k_buddy_buddyOf : TF (f_buddy_buddyOf, r_buddy_buddyOf) := ⟨Try.f26, Try.func26, by kernel_rfl, c_buddy_buddyOf⟩
theorem k_addr_Cmp : TF (f_addr_Cmp, r_addr_Cmp) := ⟨Try.f27, Try.func27, by kernel_rfl, c_addr_Cmp⟩
theorem k_r01_Sound : TF (f_r01_Sound, r_r01_Sound) := ⟨Try.f28, Try.func28, by kernel_rfl, c_r01_Sound⟩
theorem k_r01_Covers : TF (f_r01_Covers, r_r01_Covers) := ⟨Try.f29, Try.func29, by kernel_rfl, c_r01_Covers⟩
theorem k_r01_Cmp : TF (f_r01_Cmp, r_r01_Cmp) := ⟨Try.f30, Try.func30, by kernel_rfl, c_r01_Cmp⟩
theorem k_r01_Meets : TF (f_r01_Meets, r_r01_Meets) := ⟨Try.f31, Try.func31, by kernel_rfl, c_r01_Meets⟩
theorem k_r11_pair : TF (f_r11_pair, r_r11_pair) := ⟨Try.f32, Try.func32, by kernel_rfl, c_r11_pair⟩
theorem k_slices_ContainsFunc_Prefix : TF (f_slices_ContainsFunc_Prefix, r_slices_ContainsFunc_Prefix) := ⟨Try.f33, Try.func33, by kernel_rfl, c_slices_ContainsFunc_Prefix⟩
theorem k_buddy_Fits_1 : TF (f_buddy_Fits_1, r_buddy_Fits_1) := ⟨Try.f34, Try.func34, by kernel_rfl, c_buddy_Fits_1⟩
theorem k_buddy_without : TF (f_buddy_without, r_buddy_without) := ⟨Try.f35, Try.func35, by kernel_rfl, c_buddy_without⟩
theorem k_r11_rest : TF (f_r11_rest, r_r11_rest) := ⟨Try.f36, Try.func36, by kernel_rfl, c_r11_rest⟩
theorem k_slices_IndexFunc_Prefix : TF (f_slices_IndexFunc_Prefix, r_slices_IndexFunc_Prefix) := ⟨Try.f37, Try.func37, by kernel_rfl, c_slices_IndexFunc_Prefix⟩
theorem k_buddy_Reserve_1 : TF (f_buddy_Reserve_1, r_buddy_Reserve_1) := ⟨Try.f38, Try.func38, by kernel_rfl, c_buddy_Reserve_1⟩
theorem k_r11_covered : TF (f_r11_covered, r_r11_covered) := ⟨Try.f39, Try.func39, by kernel_rfl, c_r11_covered⟩
theorem k_buddy_Give_1 : TF (f_buddy_Give_1, r_buddy_Give_1) := ⟨Try.f40, Try.func40, by kernel_rfl, c_buddy_Give_1⟩
theorem k_addr_Meets : TF (f_addr_Meets, r_addr_Meets) := ⟨Try.f41, Try.func41, by kernel_rfl, c_addr_Meets⟩
theorem k_slices_Clone_Prefix : TF (f_slices_Clone_Prefix, r_slices_Clone_Prefix) := ⟨Try.f42, Try.func42, by kernel_rfl, c_slices_Clone_Prefix⟩
theorem k_slices_Index_Prefix : TF (f_slices_Index_Prefix, r_slices_Index_Prefix) := ⟨Try.f43, Try.func43, by kernel_rfl, c_slices_Index_Prefix⟩
theorem k_slices_Delete_Prefix : TF (f_slices_Delete_Prefix, r_slices_Delete_Prefix) := ⟨Try.f44, Try.func44, by kernel_rfl, c_slices_Delete_Prefix⟩
theorem k_addr_Clip : TF (f_addr_Clip, r_addr_Clip) := ⟨Try.f45, Try.func45, by kernel_rfl, c_addr_Clip⟩
theorem k_slices_SortFunc_Prefix : TF (f_slices_SortFunc_Prefix, r_slices_SortFunc_Prefix) := ⟨Try.f46, Try.func46, by kernel_rfl, c_slices_SortFunc_Prefix⟩
theorem k_buddy_compare : TF (f_buddy_compare, r_buddy_compare) := ⟨Try.f47, Try.func47, by kernel_rfl, c_buddy_compare⟩
theorem k_r11_met : TF (f_r11_met, r_r11_met) := ⟨Try.f48, Try.func48, by kernel_rfl, c_r11_met⟩
theorem k_buddy_Free_1 : TF (f_buddy_Free_1, r_buddy_Free_1) := ⟨Try.f49, Try.func49, by kernel_rfl, c_buddy_Free_1⟩
theorem k_addr_Has : TF (f_addr_Has, r_addr_Has) := ⟨Try.f50, Try.func50, by kernel_rfl, c_addr_Has⟩
theorem k_addr_Sub : TF (f_addr_Sub, r_addr_Sub) := ⟨Try.f51, Try.func51, by kernel_rfl, c_addr_Sub⟩
theorem k_addr_Add : TF (f_addr_Add, r_addr_Add) := ⟨Try.f52, Try.func52, by kernel_rfl, c_addr_Add⟩
theorem k_addr_Down : TF (f_addr_Down, r_addr_Down) := ⟨Try.f53, Try.func53, by kernel_rfl, c_addr_Down⟩
theorem k_addr_Halves : TF (f_addr_Halves, r_addr_Halves) := ⟨Try.f54, Try.func54, by kernel_rfl, c_addr_Halves⟩
theorem k_cmp_Or_int : TF (f_cmp_Or_int, r_cmp_Or_int) := ⟨Try.f55, Try.func55, by kernel_rfl, c_cmp_Or_int⟩
theorem k_cmp_Compare_uint64 : TF (f_cmp_Compare_uint64, r_cmp_Compare_uint64) := ⟨Try.f56, Try.func56, by kernel_rfl, c_cmp_Compare_uint64⟩
theorem k_r01_Clip : TF (f_r01_Clip, r_r01_Clip) := ⟨Try.f57, Try.func57, by kernel_rfl, c_r01_Clip⟩
theorem k_r01_Has : TF (f_r01_Has, r_r01_Has) := ⟨Try.f58, Try.func58, by kernel_rfl, c_r01_Has⟩
theorem k_r01_bit : TF (f_r01_bit, r_r01_bit) := ⟨Try.f59, Try.func59, by kernel_rfl, c_r01_bit⟩
theorem k_slices_Concat_Prefix : TF (f_slices_Concat_Prefix, r_slices_Concat_Prefix) := ⟨Try.f60, Try.func60, by kernel_rfl, c_slices_Concat_Prefix⟩
theorem k_buddy_split : TF (f_buddy_split, r_buddy_split) := ⟨Try.f61, Try.func61, by kernel_rfl, c_buddy_split⟩
theorem k_r01_Halves : TF (f_r01_Halves, r_r01_Halves) := ⟨Try.f62, Try.func62, by kernel_rfl, c_r01_Halves⟩
theorem k_addr_Up : TF (f_addr_Up, r_addr_Up) := ⟨Try.f63, Try.func63, by kernel_rfl, c_addr_Up⟩
theorem k_slices_pdqsortCmpFunc_Prefix : TF (f_slices_pdqsortCmpFunc_Prefix, r_slices_pdqsortCmpFunc_Prefix) := ⟨Try.f64, Try.func64, by kernel_rfl, c_slices_pdqsortCmpFunc_Prefix⟩
theorem k_bits_Len : TF (f_bits_Len, r_bits_Len) := ⟨Try.f65, Try.func65, by kernel_rfl, c_bits_Len⟩
theorem k_cmp_isNaN_uint64 : TF (f_cmp_isNaN_uint64, r_cmp_isNaN_uint64) := ⟨Try.f68, Try.func68, by kernel_rfl, c_cmp_isNaN_uint64⟩
theorem k_r01_with : TF (f_r01_with, r_r01_with) := ⟨Try.f69, Try.func69, by kernel_rfl, c_r01_with⟩
theorem k_slices_Grow_Prefix : TF (f_slices_Grow_Prefix, r_slices_Grow_Prefix) := ⟨Try.f70, Try.func70, by kernel_rfl, c_slices_Grow_Prefix⟩
theorem k_slices_insertionSortCmpFunc_Prefix : TF (f_slices_insertionSortCmpFunc_Prefix, r_slices_insertionSortCmpFunc_Prefix) := ⟨Try.f71, Try.func71, by kernel_rfl, c_slices_insertionSortCmpFunc_Prefix⟩
theorem k_slices_heapSortCmpFunc_Prefix : TF (f_slices_heapSortCmpFunc_Prefix, r_slices_heapSortCmpFunc_Prefix) := ⟨Try.f72, Try.func72, by kernel_rfl, c_slices_heapSortCmpFunc_Prefix⟩
theorem k_slices_breakPatternsCmpFunc_Prefix : TF (f_slices_breakPatternsCmpFunc_Prefix, r_slices_breakPatternsCmpFunc_Prefix) := ⟨Try.f73, Try.func73, by kernel_rfl, c_slices_breakPatternsCmpFunc_Prefix⟩
theorem k_slices_choosePivotCmpFunc_Prefix : TF (f_slices_choosePivotCmpFunc_Prefix, r_slices_choosePivotCmpFunc_Prefix) := ⟨Try.f74, Try.func74, by kernel_rfl, c_slices_choosePivotCmpFunc_Prefix⟩
theorem k_slices_reverseRangeCmpFunc_Prefix : TF (f_slices_reverseRangeCmpFunc_Prefix, r_slices_reverseRangeCmpFunc_Prefix) := ⟨Try.f75, Try.func75, by kernel_rfl, c_slices_reverseRangeCmpFunc_Prefix⟩
theorem k_slices_partialInsertionSortCmpFunc_Prefix : TF (f_slices_partialInsertionSortCmpFunc_Prefix, r_slices_partialInsertionSortCmpFunc_Prefix) := ⟨Try.f76, Try.func76, by kernel_rfl, c_slices_partialInsertionSortCmpFunc_Prefix⟩
theorem k_slices_partitionEqualCmpFunc_Prefix : TF (f_slices_partitionEqualCmpFunc_Prefix, r_slices_partitionEqualCmpFunc_Prefix) := ⟨Try.f77, Try.func77, by kernel_rfl, c_slices_partitionEqualCmpFunc_Prefix⟩
theorem k_slices_partitionCmpFunc_Prefix : TF (f_slices_partitionCmpFunc_Prefix, r_slices_partitionCmpFunc_Prefix) := ⟨Try.f78, Try.func78, by kernel_rfl, c_slices_partitionCmpFunc_Prefix⟩
theorem k_bits_Len32 : TF (f_bits_Len32, r_bits_Len32) := ⟨Try.f79, Try.func79, by kernel_rfl, c_bits_Len32⟩
theorem k_bits_Len64 : TF (f_bits_Len64, r_bits_Len64) := ⟨Try.f80, Try.func80, by kernel_rfl, c_bits_Len64⟩
theorem k_slices_siftDownCmpFunc_Prefix : TF (f_slices_siftDownCmpFunc_Prefix, r_slices_siftDownCmpFunc_Prefix) := ⟨Try.f81, Try.func81, by kernel_rfl, c_slices_siftDownCmpFunc_Prefix⟩
theorem k_slices_nextPowerOfTwo : TF (f_slices_nextPowerOfTwo, r_slices_nextPowerOfTwo) := ⟨Try.f82, Try.func82, by kernel_rfl, c_slices_nextPowerOfTwo⟩
theorem k_slices_xorshift_Next : TF (f_slices_xorshift_Next, r_slices_xorshift_Next) := ⟨Try.f83, Try.func83, by kernel_rfl, c_slices_xorshift_Next⟩
theorem k_slices_medianAdjacentCmpFunc_Prefix : TF (f_slices_medianAdjacentCmpFunc_Prefix, r_slices_medianAdjacentCmpFunc_Prefix) := ⟨Try.f84, Try.func84, by kernel_rfl, c_slices_medianAdjacentCmpFunc_Prefix⟩
theorem k_slices_medianCmpFunc_Prefix : TF (f_slices_medianCmpFunc_Prefix, r_slices_medianCmpFunc_Prefix) := ⟨Try.f85, Try.func85, by kernel_rfl, c_slices_medianCmpFunc_Prefix⟩
theorem k_slices_order2CmpFunc_Prefix : TF (f_slices_order2CmpFunc_Prefix, r_slices_order2CmpFunc_Prefix) := ⟨Try.f86, Try.func86, by kernel_rfl, c_slices_order2CmpFunc_Prefix⟩
theorem tbl_ok : ∀ x ∈ tbl, TF x := by
  unfold tbl
  simp only [List.forall_mem_cons]
  exact ⟨k_gosem_cut_init, k_w11_BuddyExact, k_w11_BuddyBack, k_w11_BuddyMemory, k_w11_BuddyRow, k_w11_awake, k_buddy_Sound, k_r11_Sound, k_buddy_Fits, k_r11_Fits, k_buddy_Take, k_r11_Take, k_w11_same, k_buddy_Reserve, k_r11_Reserve, k_buddy_Give, k_r11_Give, k_buddy_Free, k_r11_Free, k_w11_block, k_addr_Sound, k_addr_Covers, k_w11_apart, k_addr_Span, k_buddy_buddyOf, k_addr_Cmp, k_r01_Sound, k_r01_Covers, k_r01_Cmp, k_r01_Meets, k_r11_pair, k_slices_ContainsFunc_Prefix, k_buddy_Fits_1, k_buddy_without, k_r11_rest, k_slices_IndexFunc_Prefix, k_buddy_Reserve_1, k_r11_covered, k_buddy_Give_1, k_addr_Meets, k_slices_Clone_Prefix, k_slices_Index_Prefix, k_slices_Delete_Prefix, k_addr_Clip, k_slices_SortFunc_Prefix, k_buddy_compare, k_r11_met, k_buddy_Free_1, k_addr_Has, k_addr_Sub, k_addr_Add, k_addr_Down, k_addr_Halves, k_cmp_Or_int, k_cmp_Compare_uint64, k_r01_Clip, k_r01_Has, k_r01_bit, k_slices_Concat_Prefix, k_buddy_split, k_r01_Halves, k_addr_Up, k_slices_pdqsortCmpFunc_Prefix, k_bits_Len, k_cmp_isNaN_uint64, k_r01_with, k_slices_Grow_Prefix, k_slices_insertionSortCmpFunc_Prefix, k_slices_heapSortCmpFunc_Prefix, k_slices_breakPatternsCmpFunc_Prefix, k_slices_choosePivotCmpFunc_Prefix, k_slices_reverseRangeCmpFunc_Prefix, k_slices_partialInsertionSortCmpFunc_Prefix, k_slices_partitionEqualCmpFunc_Prefix, k_slices_partitionCmpFunc_Prefix, k_bits_Len32, k_bits_Len64, k_slices_siftDownCmpFunc_Prefix, k_slices_nextPowerOfTwo, k_slices_xorshift_Next, k_slices_medianAdjacentCmpFunc_Prefix, k_slices_medianCmpFunc_Prefix, k_slices_order2CmpFunc_Prefix, by simp⟩
theorem tok : TOK Try.prog ex0 T := ⟨fun f F h => .inl (tbl_ok _ (lookup_mem h)).ok⟩
theorem exok : ExOK Try.prog ex0 := ⟨fun f h => by
    cases h; exact ⟨Try.f67, Try.func67, by kernel_rfl, by kernel_rfl, by kernel_rfl, by kernel_rfl⟩, fun f h => by
    cases h; exact ⟨Try.f66, Try.func66, by kernel_rfl, by kernel_rfl, by kernel_rfl, by kernel_rfl⟩⟩
theorem mixed : Try.prog.follows .mixedOrders = true := by kernel_rfl
theorem sound : XS Try.prog (Run T) := run_sound exok mixed tok
end Go.Ev
