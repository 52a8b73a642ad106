import Derived.Test.YtliiihocjdoamaaDoorZFilesExact2
import Derived.Test.YtliiihocjdoamaaDoorProg
/-! The functions of the program, compiled. Printed by genfs.py, a program of this session, out of what `compF` comes to. -/
namespace Go.Ev
open Go.Proofs
set_option maxRecDepth 100000
abbrev f_gosem_cut_init : Nat := 2
abbrev f_w06_FilesKeep : Nat := 3
abbrev f_w06_FilesNames : Nat := 4
abbrev f_w06_FilesExact : Nat := 5
abbrev f_w06_FilesArm : Nat := 6
abbrev f_w06_awake : Nat := 7
abbrev f_files_New : Nat := 8
abbrev f_files_Disk_Append : Nat := 9
abbrev f_files_Disk_Sync : Nat := 10
abbrev f_files_Disk_Read : Nat := 11
abbrev f_files_Disk_Safe : Nat := 12
abbrev f_files_Disk_Off : Nat := 13
abbrev f_files_Disk_Down : Nat := 14
abbrev f_files_Disk_On : Nat := 15
abbrev f_files_Disk_Names : Nat := 16
abbrev f_files_Disk_Rename : Nat := 17
abbrev f_w06_names : Nat := 18
abbrev f_files_Disk_Delete : Nat := 19
abbrev f_r06_New : Nat := 20
abbrev f_w06_right : Nat := 21
abbrev f_r06_Disk_Down : Nat := 22
abbrev f_files_Disk_Steps : Nat := 23
abbrev f_r06_Disk_Steps : Nat := 24
abbrev f_r06_Disk_Safe : Nat := 25
abbrev f_r06_Disk_Names : Nat := 26
abbrev f_r06_Disk_On : Nat := 27
abbrev f_r06_Disk_Read : Nat := 28
abbrev f_files_Disk_Arm : Nat := 29
abbrev f_w06_act : Nat := 30
abbrev f_files_Disk_find : Nat := 31
abbrev f_files_Disk_spend : Nat := 32
abbrev f_files_Disk_lose : Nat := 33
abbrev f_slices_Sorted_string : Nat := 34
abbrev f_maps_Keys_file : Nat := 35
abbrev f_files_Disk_check : Nat := 36
abbrev f_r06_Disk_Append : Nat := 37
abbrev f_r06_Disk_Sync : Nat := 38
abbrev f_files_Disk_Cut : Nat := 39
abbrev f_r06_Disk_Cut : Nat := 40
abbrev f_r06_Disk_Rename : Nat := 41
abbrev f_r06_Disk_Delete : Nat := 42
abbrev f_r06_Disk_Arm : Nat := 43
abbrev f_r06_Disk_Off : Nat := 44
abbrev f_r06_Disk_place : Nat := 45
abbrev f_r06_Disk_check : Nat := 46
abbrev f_slices_Collect_string : Nat := 47
abbrev f_slices_Sort_string : Nat := 48
abbrev f_maps_Keys_1_file : Nat := 49
abbrev f_files_isName : Nat := 50
abbrev f_r06_Disk_put : Nat := 51
abbrev f_r06_Disk_power : Nat := 52
abbrev f_r06_Disk_take : Nat := 53
abbrev f_r06_Disk_goes : Nat := 54
abbrev f_r06_Name : Nat := 55
abbrev f_slices_AppendSeq_string : Nat := 56
abbrev f_slices_pdqsortOrdered_string : Nat := 57
abbrev f_bits_Len : Nat := 58
abbrev f_strings_Trim : Nat := 59
abbrev f_slices_insertionSortOrdered_string : Nat := 60
abbrev f_slices_heapSortOrdered_string : Nat := 61
abbrev f_slices_breakPatternsOrdered_string : Nat := 62
abbrev f_slices_choosePivotOrdered_string : Nat := 63
abbrev f_slices_reverseRangeOrdered_string : Nat := 64
abbrev f_slices_partialInsertionSortOrdered_string : Nat := 65
abbrev f_cmp_Less_string : Nat := 66
abbrev f_slices_partitionEqualOrdered_string : Nat := 67
abbrev f_slices_partitionOrdered_string : Nat := 68
abbrev f_bits_Len32 : Nat := 69
abbrev f_bits_Len64 : Nat := 70
abbrev f_strings_trimLeftByte : Nat := 71
abbrev f_strings_trimRightByte : Nat := 72
abbrev f_strings_makeASCIISet : Nat := 73
abbrev f_strings_trimLeftASCII : Nat := 74
abbrev f_strings_trimRightASCII : Nat := 75
abbrev f_strings_trimLeftUnicode : Nat := 76
abbrev f_strings_trimRightUnicode : Nat := 77
abbrev f_slices_siftDownOrdered_string : Nat := 78
abbrev f_slices_nextPowerOfTwo : Nat := 79
abbrev f_slices_xorshift_Next : Nat := 80
abbrev f_slices_medianAdjacentOrdered_string : Nat := 81
abbrev f_slices_medianOrdered_string : Nat := 82
abbrev f_cmp_isNaN_string : Nat := 83
abbrev f_strings_asciiSet_contains : Nat := 84
abbrev f_utf8_DecodeRuneInString : Nat := 85
abbrev f_strings_ContainsRune : Nat := 86
abbrev f_utf8_DecodeLastRuneInString : Nat := 87
abbrev f_slices_order2Ordered_string : Nat := 88
abbrev f_utf8_decodeRuneInStringSlow : Nat := 89
abbrev f_strings_IndexRune : Nat := 90
abbrev f_utf8_RuneStart : Nat := 91
abbrev f_strings_IndexByte : Nat := 92
abbrev f_utf8_ValidRune : Nat := 93
abbrev f_bytealg_Cutover : Nat := 94
abbrev f_stringslite_IndexByte : Nat := 96
abbrev f_gosem_cut_vars : Nat := 118
/-- gosem.cut.init -/
def r_gosem_cut_init : RF :=
  ⟨1, [], (.reg [⟨(some 0), none, (.call 1 [])⟩])⟩
theorem c_gosem_cut_init : compF Tryd.prog ⟨none, none⟩ Tryd.f2 = some r_gosem_cut_init := by kernel_rfl
/-- tenancy/tenancylaw06.FilesExact -/
def r_w06_FilesExact : RF :=
  ⟨153, [(.tmp 2)], (.seq (.reg [⟨(some 2), none, (.mv (.k (.bool false)))⟩]) (.seq (.seq (.reg [⟨(some 15), none, (.call f_w06_awake [])⟩, ⟨(some 16), none, (.un .not (.t 15))⟩]) 
  (.cond (.t 16) (.seq (.reg [⟨(some 2), none, (.mv (.k (.bool false)))⟩]) .ret) .skip)) (.seq (.reg [⟨(some 17), none, (.call f_files_New [])⟩, ⟨(some 3), none, (.mv (.t 17))⟩]) 
  (.seq (.reg [⟨(some 18), none, (.call f_r06_New [])⟩, ⟨(some 4), none, (.mv (.t 18))⟩]) (.seq (.seq (.reg [⟨(some 19), none, (.mv (.t 3))⟩, 
  ⟨(some 20), none, (.eq false .p (.t 19) (.k .nilp))⟩]) (.cond (.t 20) (.seq (.reg [⟨(some 2), none, (.mv (.k (.bool false)))⟩]) .ret) .skip)) (.seq 
  (.reg [⟨(some 5), none, (.mv (.k (.int .i64 0)))⟩]) (.seq (.seq (.reg [⟨(some 6), none, (.mv (.k (.int .i64 0)))⟩]) (.block 0 (.loop (.seq (.seq 
  (.reg [⟨(some 21), none, (.mv (.t 6))⟩, ⟨(some 22), none, (.mv (.t 0))⟩, ⟨(some 23), none, (.lenl (.t 22))⟩, ⟨(some 24), none, (.bin .lss (.t 21) (.t 23))⟩, 
  ⟨(some 25), none, (.mv (.t 24))⟩, ⟨(some 26), (some (25, true)), (.mv (.t 6))⟩, ⟨(some 27), (some (25, true)), (.bin .lss (.t 26) (.k (.int .i64 2000)))⟩, 
  ⟨(some 28), none, (.pick (.t 25) (.t 27) (.k (.bool false)))⟩]) (.cond (.t 28) .skip (.exit 0))) (.seq (.block 1 (.seq (.reg [⟨(some 31), none, (.mv (.t 5))⟩, 
  ⟨(some 32), none, (.mv (.t 0))⟩, ⟨(some 33), none, (.mv (.t 6))⟩, ⟨(some 34), none, (.ixa 6 (.t 32) (.t 33))⟩, ⟨(some 35), none, (.off 3 (.t 34))⟩, 
  ⟨(some 36), none, (.ld none (.t 35))⟩, ⟨(some 37), none, (.lens (.t 36))⟩, ⟨(some 38), none, (.bin .add (.t 31) (.t 37))⟩, ⟨(some 5), none, (.mv (.t 38))⟩]) (.seq (.seq 
  (.reg [⟨(some 39), none, (.mv (.t 5))⟩, ⟨(some 40), none, (.bin .gtr (.t 39) (.k (.int .i64 4194304)))⟩]) (.cond (.t 40) (.seq 
  (.reg [⟨(some 2), none, (.mv (.k (.bool true)))⟩]) .ret) .skip)) (.seq (.reg [⟨(some 41), none, (.mv (.t 3))⟩, ⟨(some 7), none, (.mv (.t 41))⟩]) (.seq 
  (.reg [⟨(some 42), none, (.mv (.t 4))⟩, ⟨(some 8), none, (.mv (.t 42))⟩]) (.seq (.seq (.reg [⟨(some 43), none, (.mv (.t 0))⟩, ⟨(some 44), none, (.mv (.t 6))⟩, 
  ⟨(some 45), none, (.ixa 6 (.t 43) (.t 44))⟩, ⟨(some 46), none, (.off 1 (.t 45))⟩, ⟨(some 47), none, (.ld none (.t 46))⟩, 
  ⟨(some 48), none, (.eq true .i (.t 47) (.k (.int .i64 0)))⟩]) (.cond (.t 48) (.seq (.reg [⟨(some 7), none, (.mv (.k .nilp))⟩]) (.reg [⟨(some 8), none, (.mv (.k .nilp))⟩])) .skip)) 
  (.seq (.drw 0 [⟨⟨(some 49), none, (.mv (.t 7))⟩, .pure, [], []⟩, ⟨⟨(some 50), none, (.mv (.t 8))⟩, .pure, [], []⟩, ⟨⟨(some 51), none, (.mv (.t 0))⟩, .pure, [], []⟩, 
  ⟨⟨(some 52), none, (.mv (.t 6))⟩, .pure, [], []⟩, ⟨⟨(some 53), none, (.ixa 6 (.t 51) (.t 52))⟩, .pure, [], []⟩, ⟨⟨(some 54), none, (.ld (some 6) (.t 53))⟩, .ld, [], []⟩, 
  ⟨⟨(some 55), none, (.call f_w06_right [(.t 49), (.t 50), (.t 54)])⟩, .eff, [], []⟩, ⟨⟨(some 56), none, (.un .not (.t 55))⟩, .pure, [], []⟩, 
  ⟨⟨(some 57), none, (.mv (.t 56))⟩, .pure, [], []⟩, ⟨⟨(some 58), (some (57, false)), (.mv (.t 7))⟩, .pure, [], []⟩, 
  ⟨⟨(some 59), (some (57, false)), (.call f_files_Disk_Down [(.t 58)])⟩, .eff, [], []⟩, ⟨⟨(some 60), (some (57, false)), (.mv (.t 8))⟩, .pure, [], []⟩, 
  ⟨⟨(some 61), (some (57, false)), (.call f_r06_Disk_Down [(.t 60)])⟩, .eff, [], []⟩, ⟨⟨(some 62), (some (57, false)), (.eq true .b (.t 59) (.t 61))⟩, .pure, [], []⟩, 
  ⟨⟨(some 63), none, (.pick (.t 57) (.k (.bool true)) (.t 62))⟩, .pure, [], []⟩, ⟨⟨(some 64), none, (.mv (.t 63))⟩, .pure, [], []⟩, 
  ⟨⟨(some 65), (some (64, false)), (.mv (.t 7))⟩, .pure, [], []⟩, ⟨⟨(some 66), (some (64, false)), (.call f_files_Disk_Steps [(.t 65)])⟩, .eff, [], []⟩, 
  ⟨⟨(some 67), (some (64, false)), (.mv (.t 8))⟩, .pure, [], []⟩, ⟨⟨(some 68), (some (64, false)), (.call f_r06_Disk_Steps [(.t 67)])⟩, .eff, [], []⟩, 
  ⟨⟨(some 69), (some (64, false)), (.eq true .i (.t 66) (.t 68))⟩, .pure, [], []⟩, ⟨⟨(some 70), none, (.pick (.t 64) (.k (.bool true)) (.t 69))⟩, .pure, [], []⟩, 
  ⟨⟨(some 71), none, (.mv (.t 70))⟩, .pure, [], []⟩, ⟨⟨(some 72), (some (71, false)), (.mv (.t 7))⟩, .pure, [], []⟩, ⟨⟨(some 73), (some (71, false)), (.mv (.t 0))⟩, .pure, [], []⟩, 
  ⟨⟨(some 74), (some (71, false)), (.mv (.t 6))⟩, .pure, [], []⟩, ⟨⟨(some 75), (some (71, false)), (.ixa 6 (.t 73) (.t 74))⟩, .pure, [], []⟩, 
  ⟨⟨(some 76), (some (71, false)), (.off 2 (.t 75))⟩, .pure, [], []⟩, ⟨⟨(some 77), (some (71, false)), (.ld none (.t 76))⟩, .ld, [], []⟩, 
  ⟨⟨(some 78), (some (71, false)), (.call f_files_Disk_Safe [(.t 72), (.t 77)])⟩, .eff, [], []⟩, ⟨⟨(some 79), (some (71, false)), (.mv (.t 8))⟩, .pure, [28], []⟩, 
  ⟨⟨(some 80), (some (71, false)), (.mv (.t 0))⟩, .pure, [28], []⟩, ⟨⟨(some 81), (some (71, false)), (.mv (.t 6))⟩, .pure, [28], []⟩, 
  ⟨⟨(some 82), (some (71, false)), (.ixa 6 (.t 80) (.t 81))⟩, .pure, [28], []⟩, ⟨⟨(some 83), (some (71, false)), (.off 2 (.t 82))⟩, .pure, [28], []⟩, 
  ⟨⟨(some 84), (some (71, false)), (.ld none (.t 83))⟩, .ld, [29], []⟩, ⟨⟨(some 85), (some (71, false)), (.call f_r06_Disk_Safe [(.t 79), (.t 84)])⟩, .eff, [], []⟩, 
  ⟨⟨(some 86), (some (71, false)), (.eq true .i (.t 78) (.t 85))⟩, .pure, [], []⟩, ⟨⟨(some 87), none, (.pick (.t 71) (.k (.bool true)) (.t 86))⟩, .pure, [], []⟩, 
  ⟨⟨(some 88), none, (.mv (.t 87))⟩, .pure, [], []⟩, ⟨⟨(some 89), (some (88, false)), (.mv (.t 7))⟩, .pure, [], []⟩, 
  ⟨⟨(some 90), (some (88, false)), (.call f_files_Disk_Names [(.t 89)])⟩, .eff, [], []⟩, ⟨⟨(some 91), (some (88, false)), (.mv (.t 8))⟩, .pure, [], []⟩, 
  ⟨⟨(some 92), (some (88, false)), (.call f_r06_Disk_Names [(.t 91)])⟩, .eff, [], []⟩, ⟨⟨(some 93), (some (88, false)), (.call f_w06_names [(.t 90), (.t 92)])⟩, .eff, [], []⟩, 
  ⟨⟨(some 94), (some (88, false)), (.un .not (.t 93))⟩, .pure, [], []⟩, ⟨⟨(some 95), none, (.pick (.t 88) (.k (.bool true)) (.t 94))⟩, .pure, [], []⟩]) (.cond (.t 95) (.seq 
  (.reg [⟨(some 2), none, (.mv (.k (.bool false)))⟩]) .ret) .skip)))))))) (.reg [⟨(some 29), none, (.mv (.t 6))⟩, ⟨(some 30), none, (.bin .add (.t 29) (.k (.int .i64 1)))⟩, 
  ⟨(some 6), none, (.mv (.t 30))⟩])))))) (.seq (.reg [⟨(some 96), none, (.mv (.t 3))⟩, ⟨(some 97), none, (.call f_files_Disk_On [(.t 96)])⟩]) (.seq 
  (.reg [⟨(some 98), none, (.mv (.t 4))⟩, ⟨(some 99), none, (.call f_r06_Disk_On [(.t 98)])⟩]) (.seq (.reg [⟨(some 100), none, (.mv (.t 4))⟩, 
  ⟨(some 101), none, (.call f_r06_Disk_Names [(.t 100)])⟩, ⟨(some 9), none, (.mv (.t 101))⟩]) (.seq (.seq (.reg [⟨(some 10), none, (.mv (.k (.int .i64 0)))⟩]) (.block 2 (.loop (.seq 
  (.seq (.reg [⟨(some 102), none, (.mv (.t 10))⟩, ⟨(some 103), none, (.mv (.t 9))⟩, ⟨(some 104), none, (.lenl (.t 103))⟩, ⟨(some 105), none, (.bin .lss (.t 102) (.t 104))⟩]) 
  (.cond (.t 105) .skip (.exit 2))) (.seq (.block 3 (.seq (.reg [⟨(some 109), none, (.mv (.t 3))⟩, ⟨(some 110), none, (.mv (.t 9))⟩, ⟨(some 111), none, (.mv (.t 10))⟩, 
  ⟨(some 112), none, (.ixa 1 (.t 110) (.t 111))⟩, ⟨(some 113), none, (.ld none (.t 112))⟩, ⟨(some 114), none, (.call f_files_Disk_Read [(.t 109), (.t 113)])⟩, 
  ⟨(some 108), none, (.mv (.t 114))⟩, ⟨(some 115), none, (.ext 0 (.t 108))⟩, ⟨(some 116), none, (.ext 1 (.t 108))⟩, ⟨(some 11), none, (.mv (.t 115))⟩, 
  ⟨(some 12), none, (.mv (.t 116))⟩]) (.seq (.reg [⟨(some 118), none, (.mv (.t 4))⟩, ⟨(some 119), none, (.mv (.t 9))⟩, ⟨(some 120), none, (.mv (.t 10))⟩, 
  ⟨(some 121), none, (.ixa 1 (.t 119) (.t 120))⟩, ⟨(some 122), none, (.ld none (.t 121))⟩, ⟨(some 123), none, (.call f_r06_Disk_Read [(.t 118), (.t 122)])⟩, 
  ⟨(some 117), none, (.mv (.t 123))⟩, ⟨(some 124), none, (.ext 0 (.t 117))⟩, ⟨(some 125), none, (.ext 1 (.t 117))⟩, ⟨(some 13), none, (.mv (.t 124))⟩, 
  ⟨(some 14), none, (.mv (.t 125))⟩]) (.seq (.drw 0 [⟨⟨(some 126), none, (.mv (.t 11))⟩, .pure, [], []⟩, ⟨⟨(some 127), none, (.mv (.t 13))⟩, .pure, [], []⟩, 
  ⟨⟨(some 128), none, (.eq true .s (.t 126) (.t 127))⟩, .pure, [], []⟩, ⟨⟨(some 129), none, (.mv (.t 128))⟩, .pure, [], []⟩, 
  ⟨⟨(some 130), (some (129, false)), (.mv (.t 12))⟩, .pure, [], []⟩, ⟨⟨(some 131), (some (129, false)), (.mv (.t 14))⟩, .pure, [], []⟩, 
  ⟨⟨(some 132), (some (129, false)), (.eq true .i (.t 130) (.t 131))⟩, .pure, [], []⟩, ⟨⟨(some 133), none, (.pick (.t 129) (.k (.bool true)) (.t 132))⟩, .pure, [], []⟩, 
  ⟨⟨(some 134), none, (.mv (.t 133))⟩, .pure, [], []⟩, ⟨⟨(some 135), (some (134, false)), (.mv (.t 3))⟩, .pure, [], []⟩, 
  ⟨⟨(some 136), (some (134, false)), (.mv (.t 9))⟩, .pure, [], []⟩, ⟨⟨(some 137), (some (134, false)), (.mv (.t 10))⟩, .pure, [], []⟩, 
  ⟨⟨(some 138), (some (134, false)), (.ixa 1 (.t 136) (.t 137))⟩, .pure, [], []⟩, ⟨⟨(some 139), (some (134, false)), (.ld none (.t 138))⟩, .ld, [], []⟩, 
  ⟨⟨(some 140), (some (134, false)), (.call f_files_Disk_Safe [(.t 135), (.t 139)])⟩, .eff, [], []⟩, ⟨⟨(some 141), (some (134, false)), (.mv (.t 4))⟩, .pure, [13], []⟩, 
  ⟨⟨(some 142), (some (134, false)), (.mv (.t 9))⟩, .pure, [13], []⟩, ⟨⟨(some 143), (some (134, false)), (.mv (.t 10))⟩, .pure, [13], []⟩, 
  ⟨⟨(some 144), (some (134, false)), (.ixa 1 (.t 142) (.t 143))⟩, .pure, [13], []⟩, ⟨⟨(some 145), (some (134, false)), (.ld none (.t 144))⟩, .ld, [14], []⟩, 
  ⟨⟨(some 146), (some (134, false)), (.call f_r06_Disk_Safe [(.t 141), (.t 145)])⟩, .eff, [], []⟩, 
  ⟨⟨(some 147), (some (134, false)), (.eq true .i (.t 140) (.t 146))⟩, .pure, [], []⟩, ⟨⟨(some 148), none, (.pick (.t 134) (.k (.bool true)) (.t 147))⟩, .pure, [], []⟩]) 
  (.cond (.t 148) (.seq (.reg [⟨(some 2), none, (.mv (.k (.bool false)))⟩]) .ret) .skip))))) (.reg [⟨(some 106), none, (.mv (.t 10))⟩, 
  ⟨(some 107), none, (.bin .add (.t 106) (.k (.int .i64 1)))⟩, ⟨(some 10), none, (.mv (.t 107))⟩])))))) (.seq (.reg [⟨(some 149), none, (.mv (.t 3))⟩, 
  ⟨(some 150), none, (.call f_files_Disk_Names [(.t 149)])⟩, ⟨(some 151), none, (.mv (.t 9))⟩, ⟨(some 152), none, (.call f_w06_names [(.t 150), (.t 151)])⟩, 
  ⟨(some 2), none, (.mv (.t 152))⟩]) .ret))))))))))))⟩
theorem c_w06_FilesExact : compF Tryd.prog ⟨none, none⟩ Tryd.f5 = some r_w06_FilesExact := by kernel_rfl
/-- tenancy/tenancylaw06.awake -/
def r_w06_awake : RF :=
  ⟨80, [(.tmp 0)], (.seq (.reg [⟨(some 0), none, (.mv (.k (.bool false)))⟩]) (.seq (.reg [⟨(some 9), none, (.call f_files_New [])⟩, ⟨(some 1), none, (.mv (.t 9))⟩]) (.seq (.seq 
  (.reg [⟨(some 10), none, (.mv (.t 1))⟩, ⟨(some 11), none, (.eq false .p (.t 10) (.k .nilp))⟩]) (.cond (.t 11) (.seq 
  (.reg [⟨(some 0), none, (.mv (.k (.bool false)))⟩]) .ret) .skip)) (.seq (.reg [⟨(some 12), none, (.mv (.t 1))⟩, 
  ⟨(some 13), none, (.call f_files_Disk_Append [(.t 12), (.k (.str (bts [108, 111, 103]))), (.k (.str (bts [97, 98, 99])))])⟩, ⟨(some 2), none, (.mv (.t 13))⟩]) (.seq 
  (.reg [⟨(some 14), none, (.mv (.t 1))⟩, ⟨(some 15), none, (.call f_files_Disk_Sync [(.t 14), (.k (.str (bts [108, 111, 103])))])⟩, ⟨(some 3), none, (.mv (.t 15))⟩]) (.seq 
  (.reg [⟨(some 16), none, (.mv (.t 1))⟩, ⟨(some 17), none, (.call f_files_Disk_Append [(.t 16), (.k (.str (bts [108, 111, 103]))), (.k (.str (bts [100, 101])))])⟩, 
  ⟨(some 4), none, (.mv (.t 17))⟩]) (.seq (.reg [⟨(some 18), none, (.mv (.t 1))⟩, ⟨(some 19), none, (.call f_files_Disk_Off [(.t 18), (.k (.int .i64 1))])⟩]) (.seq 
  (.reg [⟨(some 21), none, (.mv (.t 1))⟩, ⟨(some 22), none, (.call f_files_Disk_Read [(.t 21), (.k (.str (bts [108, 111, 103])))])⟩, ⟨(some 20), none, (.mv (.t 22))⟩, 
  ⟨(some 23), none, (.ext 0 (.t 20))⟩, ⟨(some 24), none, (.ext 1 (.t 20))⟩, ⟨(some 5), none, (.mv (.t 23))⟩, ⟨(some 6), none, (.mv (.t 24))⟩]) (.seq 
  (.reg [⟨(some 25), none, (.mv (.t 1))⟩, ⟨(some 26), none, (.call f_files_Disk_On [(.t 25)])⟩]) (.seq (.reg [⟨(some 28), none, (.mv (.t 1))⟩, 
  ⟨(some 29), none, (.call f_files_Disk_Read [(.t 28), (.k (.str (bts [108, 111, 103])))])⟩, ⟨(some 27), none, (.mv (.t 29))⟩, ⟨(some 30), none, (.ext 0 (.t 27))⟩, 
  ⟨(some 31), none, (.ext 1 (.t 27))⟩, ⟨(some 7), none, (.mv (.t 30))⟩, ⟨(some 8), none, (.mv (.t 31))⟩]) (.seq (.reg [⟨(some 32), none, (.mv (.t 2))⟩, 
  ⟨(some 33), none, (.eq false .i (.t 32) (.k (.int .i64 0)))⟩, ⟨(some 34), none, (.mv (.t 33))⟩, ⟨(some 35), (some (34, true)), (.mv (.t 3))⟩, 
  ⟨(some 36), (some (34, true)), (.eq false .i (.t 35) (.k (.int .i64 0)))⟩, ⟨(some 37), none, (.pick (.t 34) (.t 36) (.k (.bool false)))⟩, ⟨(some 38), none, (.mv (.t 37))⟩, 
  ⟨(some 39), (some (38, true)), (.mv (.t 4))⟩, ⟨(some 40), (some (38, true)), (.eq false .i (.t 39) (.k (.int .i64 0)))⟩, 
  ⟨(some 41), none, (.pick (.t 38) (.t 40) (.k (.bool false)))⟩, ⟨(some 42), none, (.mv (.t 41))⟩, ⟨(some 43), (some (42, true)), (.mv (.t 6))⟩, 
  ⟨(some 44), (some (42, true)), (.eq false .i (.t 43) (.k (.int .i64 60)))⟩, ⟨(some 45), none, (.pick (.t 42) (.t 44) (.k (.bool false)))⟩, ⟨(some 46), none, (.mv (.t 45))⟩, 
  ⟨(some 47), (some (46, true)), (.mv (.t 8))⟩, ⟨(some 48), (some (46, true)), (.eq false .i (.t 47) (.k (.int .i64 0)))⟩, 
  ⟨(some 49), none, (.pick (.t 46) (.t 48) (.k (.bool false)))⟩, ⟨(some 50), none, (.mv (.t 49))⟩, ⟨(some 51), (some (50, true)), (.mv (.t 7))⟩, 
  ⟨(some 52), (some (50, true)), (.eq false .s (.t 51) (.k (.str (bts [97, 98, 99, 100]))))⟩, ⟨(some 53), none, (.pick (.t 50) (.t 52) (.k (.bool false)))⟩, 
  ⟨(some 54), none, (.mv (.t 53))⟩, ⟨(some 55), (some (54, true)), (.mv (.t 1))⟩, 
  ⟨(some 56), (some (54, true)), (.call f_files_Disk_Safe [(.t 55), (.k (.str (bts [108, 111, 103])))])⟩, ⟨(some 57), (some (54, true)), (.eq false .i (.t 56) (.k (.int .i64 4)))⟩, 
  ⟨(some 58), none, (.pick (.t 54) (.t 57) (.k (.bool false)))⟩, ⟨(some 59), none, (.mv (.t 58))⟩, ⟨(some 60), (some (59, true)), (.mv (.t 1))⟩, 
  ⟨(some 61), (some (59, true)), (.call f_files_Disk_Steps [(.t 60)])⟩, ⟨(some 62), (some (59, true)), (.eq false .i (.t 61) (.k (.int .i64 3)))⟩, 
  ⟨(some 63), none, (.pick (.t 59) (.t 62) (.k (.bool false)))⟩, ⟨(some 64), none, (.mv (.t 63))⟩, ⟨(some 65), (some (64, true)), (.mv (.t 1))⟩, 
  ⟨(some 66), (some (64, true)), (.call f_files_Disk_Names [(.t 65)])⟩, ⟨(some 67), (some (64, true)), (.bsl 1 1 [(.str (bts []))] [(0, (1, (.k (.str (bts [108, 111, 103])))))])⟩, 
  ⟨(some 68), (some (64, true)), (.call f_w06_names [(.t 66), (.t 67)])⟩, ⟨(some 69), none, (.pick (.t 64) (.t 68) (.k (.bool false)))⟩, ⟨(some 70), none, (.mv (.t 69))⟩, 
  ⟨(some 71), (some (70, true)), (.mv (.t 1))⟩, ⟨(some 72), (some (70, true)), (.call f_files_Disk_Down [(.t 71)])⟩, ⟨(some 73), (some (70, true)), (.un .not (.t 72))⟩, 
  ⟨(some 74), none, (.pick (.t 70) (.t 73) (.k (.bool false)))⟩, ⟨(some 75), none, (.mv (.t 74))⟩, ⟨(some 76), (some (75, true)), (.mv (.t 1))⟩, 
  ⟨(some 77), (some (75, true)), (.call f_files_Disk_Append [(.t 76), (.k (.str (bts [76, 111, 103]))), (.k (.str (bts [])))])⟩, 
  ⟨(some 78), (some (75, true)), (.eq false .i (.t 77) (.k (.int .i64 61)))⟩, ⟨(some 79), none, (.pick (.t 75) (.t 78) (.k (.bool false)))⟩, 
  ⟨(some 0), none, (.mv (.t 79))⟩]) .ret)))))))))))⟩
theorem c_w06_awake : compF Tryd.prog ⟨none, none⟩ Tryd.f7 = some r_w06_awake := by kernel_rfl
/-- tenancy/files.New -/
def r_files_New : RF :=
  ⟨4, [(.tmp 0)], (.seq (.reg [⟨(some 0), none, (.mv (.k .nilp))⟩]) (.seq (.reg [⟨(some 1), none, (.xt .mkm [])⟩, 
  ⟨(some 2), none, (.bld [.nilm, (.bool false), (.bool false), (.int .i64 0), (.int .i64 0), (.int .i64 0)] [(0, (1, (.t 1)))])⟩, ⟨(some 3), none, (.box (some 6) (.t 2))⟩, 
  ⟨(some 0), none, (.mv (.t 3))⟩]) .ret))⟩
theorem c_files_New : compF Tryd.prog ⟨none, none⟩ Tryd.f8 = some r_files_New := by kernel_rfl
/-- (*tenancy/files.Disk).Append -/
def r_files_Disk_Append : RF :=
  ⟨57, [(.tmp 6)], (.seq (.reg [⟨(some 6), none, (.mv (.k (.int .i64 0)))⟩]) (.seq (.reg [⟨(some 10), none, (.mv (.t 0))⟩, ⟨(some 11), none, (.mv (.t 1))⟩, 
  ⟨(some 12), none, (.call f_files_Disk_find [(.t 10), (.t 11)])⟩, ⟨(some 9), none, (.mv (.t 12))⟩, ⟨(some 13), none, (.ext 0 (.t 9))⟩, ⟨(some 14), none, (.ext 1 (.t 9))⟩, 
  ⟨(some 7), none, (.mv (.t 13))⟩, ⟨(some 8), none, (.mv (.t 14))⟩]) (.seq (.seq (.reg [⟨(some 15), none, (.mv (.t 8))⟩, ⟨(some 16), none, (.eq true .i (.t 15) (.k (.int .i64 0)))⟩, 
  ⟨(some 17), none, (.mv (.t 16))⟩, ⟨(some 18), (some (17, true)), (.mv (.t 8))⟩, ⟨(some 19), (some (17, true)), (.eq true .i (.t 18) (.k (.int .i64 62)))⟩, 
  ⟨(some 20), none, (.pick (.t 17) (.t 19) (.k (.bool false)))⟩]) (.cond (.t 20) (.seq (.reg [⟨(some 21), none, (.mv (.t 8))⟩, ⟨(some 6), none, (.mv (.t 21))⟩]) .ret) .skip)) (.seq 
  (.seq (.reg [⟨(some 22), none, (.mv (.t 7))⟩, ⟨(some 23), none, (.eq false .p (.t 22) (.k .nilp))⟩]) (.cond (.t 23) (.seq (.seq (.reg [⟨(some 24), none, (.mv (.t 0))⟩, 
  ⟨(some 25), none, (.nck (.t 24))⟩, ⟨(some 26), none, (.off 0 (.t 25))⟩, ⟨(some 27), none, (.ld none (.t 26))⟩, ⟨(some 28), none, (.xt .lenm [(.t 27)])⟩, 
  ⟨(some 29), none, (.bin .geq (.t 28) (.k (.int .i64 16)))⟩]) (.cond (.t 29) (.seq (.reg [⟨(some 6), none, (.mv (.k (.int .i64 63)))⟩]) .ret) .skip)) 
  (.reg [⟨(some 30), none, (.bld [(.str (bts [])), (.int .i64 0)] [])⟩, ⟨(some 31), none, (.box (some 2) (.t 30))⟩, ⟨(some 7), none, (.mv (.t 31))⟩])) .skip)) (.seq (.seq 
  (.reg [⟨(some 32), none, (.mv (.t 2))⟩, ⟨(some 33), none, (.lens (.t 32))⟩, ⟨(some 34), none, (.mv (.t 7))⟩, ⟨(some 35), none, (.nck (.t 34))⟩, 
  ⟨(some 36), none, (.off 0 (.t 35))⟩, ⟨(some 37), none, (.ld none (.t 36))⟩, ⟨(some 38), none, (.lens (.t 37))⟩, ⟨(some 39), none, (.bin .sub (.k (.int .i64 1048576)) (.t 38))⟩, 
  ⟨(some 40), none, (.bin .gtr (.t 33) (.t 39))⟩]) (.cond (.t 40) (.seq (.reg [⟨(some 6), none, (.mv (.k (.int .i64 63)))⟩]) .ret) .skip)) (.seq 
  (.reg [⟨(some 41), none, (.mv (.t 7))⟩, ⟨(some 42), none, (.nck (.t 41))⟩, ⟨(some 43), none, (.off 0 (.t 42))⟩, ⟨(some 44), none, (.ld none (.t 43))⟩, 
  ⟨(some 45), none, (.mv (.t 2))⟩, ⟨(some 46), none, (.bin .add (.t 44) (.t 45))⟩, ⟨(some 47), none, (.nck (.t 41))⟩, ⟨(some 48), none, (.off 0 (.t 47))⟩, 
  ⟨none, none, (.st none (.t 48) (.t 46))⟩]) (.seq (.reg [⟨(some 49), none, (.mv (.t 0))⟩, ⟨(some 50), none, (.nck (.t 49))⟩, ⟨(some 51), none, (.off 0 (.t 50))⟩, 
  ⟨(some 52), none, (.ld none (.t 51))⟩, ⟨(some 53), none, (.mv (.t 1))⟩, ⟨(some 54), none, (.mv (.t 7))⟩, ⟨none, none, (.xt (.mup .s) [(.t 52), (.t 53), (.t 54)])⟩]) (.seq 
  (.reg [⟨(some 55), none, (.mv (.t 0))⟩, ⟨(some 56), none, (.call f_files_Disk_spend [(.t 55)])⟩, ⟨(some 6), none, (.mv (.t 56))⟩]) .ret))))))))⟩
theorem c_files_Disk_Append : compF Tryd.prog ⟨none, none⟩ Tryd.f9 = some r_files_Disk_Append := by kernel_rfl
/-- (*tenancy/files.Disk).Sync -/
def r_files_Disk_Sync : RF :=
  ⟨30, [(.tmp 4)], (.seq (.reg [⟨(some 4), none, (.mv (.k (.int .i64 0)))⟩]) (.seq (.reg [⟨(some 9), none, (.mv (.t 0))⟩, ⟨(some 10), none, (.mv (.t 1))⟩, 
  ⟨(some 11), none, (.call f_files_Disk_find [(.t 9), (.t 10)])⟩, ⟨(some 8), none, (.mv (.t 11))⟩, ⟨(some 12), none, (.ext 0 (.t 8))⟩, ⟨(some 13), none, (.ext 1 (.t 8))⟩, 
  ⟨(some 5), none, (.mv (.t 12))⟩, ⟨(some 6), none, (.mv (.t 13))⟩]) (.seq (.seq (.reg [⟨(some 14), none, (.mv (.t 6))⟩, 
  ⟨(some 15), none, (.eq true .i (.t 14) (.k (.int .i64 0)))⟩]) (.cond (.t 15) (.seq (.reg [⟨(some 16), none, (.mv (.t 6))⟩, ⟨(some 4), none, (.mv (.t 16))⟩]) .ret) .skip)) (.seq 
  (.seq (.reg [⟨(some 17), none, (.mv (.t 0))⟩, ⟨(some 18), none, (.call f_files_Disk_spend [(.t 17)])⟩, ⟨(some 7), none, (.mv (.t 18))⟩]) (.seq 
  (.reg [⟨(some 19), none, (.mv (.t 7))⟩, ⟨(some 20), none, (.eq true .i (.t 19) (.k (.int .i64 0)))⟩]) (.cond (.t 20) (.seq (.reg [⟨(some 21), none, (.mv (.t 7))⟩, 
  ⟨(some 4), none, (.mv (.t 21))⟩]) .ret) .skip))) (.seq (.reg [⟨(some 22), none, (.mv (.t 5))⟩, ⟨(some 23), none, (.mv (.t 5))⟩, ⟨(some 24), none, (.nck (.t 23))⟩, 
  ⟨(some 25), none, (.off 0 (.t 24))⟩, ⟨(some 26), none, (.ld none (.t 25))⟩, ⟨(some 27), none, (.lens (.t 26))⟩, ⟨(some 28), none, (.nck (.t 22))⟩, 
  ⟨(some 29), none, (.off 1 (.t 28))⟩, ⟨none, none, (.st none (.t 29) (.t 27))⟩]) (.seq (.reg [⟨(some 4), none, (.mv (.k (.int .i64 0)))⟩]) .ret))))))⟩
theorem c_files_Disk_Sync : compF Tryd.prog ⟨none, none⟩ Tryd.f10 = some r_files_Disk_Sync := by kernel_rfl
/-- (*tenancy/files.Disk).Read -/
def r_files_Disk_Read : RF :=
  ⟨21, [(.tmp 4), (.tmp 5)], (.seq (.reg [⟨(some 4), none, (.mv (.k (.str (bts []))))⟩, ⟨(some 5), none, (.mv (.k (.int .i64 0)))⟩]) (.seq (.reg [⟨(some 9), none, (.mv (.t 0))⟩, 
  ⟨(some 10), none, (.mv (.t 1))⟩, ⟨(some 11), none, (.call f_files_Disk_find [(.t 9), (.t 10)])⟩, ⟨(some 8), none, (.mv (.t 11))⟩, ⟨(some 12), none, (.ext 0 (.t 8))⟩, 
  ⟨(some 13), none, (.ext 1 (.t 8))⟩, ⟨(some 6), none, (.mv (.t 12))⟩, ⟨(some 7), none, (.mv (.t 13))⟩]) (.seq (.seq (.reg [⟨(some 14), none, (.mv (.t 7))⟩, 
  ⟨(some 15), none, (.eq true .i (.t 14) (.k (.int .i64 0)))⟩]) (.cond (.t 15) (.seq (.reg [⟨(some 16), none, (.mv (.t 7))⟩, ⟨(some 4), none, (.mv (.k (.str (bts []))))⟩, 
  ⟨(some 5), none, (.mv (.t 16))⟩]) .ret) .skip)) (.seq (.reg [⟨(some 17), none, (.mv (.t 6))⟩, ⟨(some 18), none, (.nck (.t 17))⟩, ⟨(some 19), none, (.off 0 (.t 18))⟩, 
  ⟨(some 20), none, (.ld none (.t 19))⟩, ⟨(some 4), none, (.mv (.t 20))⟩, ⟨(some 5), none, (.mv (.k (.int .i64 0)))⟩]) .ret))))⟩
theorem c_files_Disk_Read : compF Tryd.prog ⟨none, none⟩ Tryd.f11 = some r_files_Disk_Read := by kernel_rfl
/-- (*tenancy/files.Disk).Safe -/
def r_files_Disk_Safe : RF :=
  ⟨25, [(.tmp 4)], (.seq (.reg [⟨(some 4), none, (.mv (.k (.int .i64 0)))⟩]) (.seq (.seq (.reg [⟨(some 5), none, (.mv (.t 0))⟩, ⟨(some 6), none, (.eq false .p (.t 5) (.k .nilp))⟩, 
  ⟨(some 7), none, (.mv (.t 6))⟩, ⟨(some 8), (some (7, false)), (.mv (.t 0))⟩, ⟨(some 9), (some (7, false)), (.nck (.t 8))⟩, ⟨(some 10), (some (7, false)), (.off 0 (.t 9))⟩, 
  ⟨(some 11), (some (7, false)), (.ld none (.t 10))⟩, ⟨(some 12), (some (7, false)), (.mv (.t 1))⟩, ⟨(some 13), (some (7, false)), (.xt (.lku .s .nilp false) [(.t 11), (.t 12)])⟩, 
  ⟨(some 14), (some (7, false)), (.eq false .p (.t 13) (.k .nilp))⟩, ⟨(some 15), none, (.pick (.t 7) (.k (.bool true)) (.t 14))⟩]) (.cond (.t 15) (.seq 
  (.reg [⟨(some 4), none, (.mv (.k (.int .i64 0)))⟩]) .ret) .skip)) (.seq (.reg [⟨(some 16), none, (.mv (.t 0))⟩, ⟨(some 17), none, (.nck (.t 16))⟩, 
  ⟨(some 18), none, (.off 0 (.t 17))⟩, ⟨(some 19), none, (.ld none (.t 18))⟩, ⟨(some 20), none, (.mv (.t 1))⟩, ⟨(some 21), none, (.xt (.lku .s .nilp false) [(.t 19), (.t 20)])⟩, 
  ⟨(some 22), none, (.nck (.t 21))⟩, ⟨(some 23), none, (.off 1 (.t 22))⟩, ⟨(some 24), none, (.ld none (.t 23))⟩, ⟨(some 4), none, (.mv (.t 24))⟩]) .ret)))⟩
theorem c_files_Disk_Safe : compF Tryd.prog ⟨none, none⟩ Tryd.f12 = some r_files_Disk_Safe := by kernel_rfl
/-- (*tenancy/files.Disk).Off -/
def r_files_Disk_Off : RF :=
  ⟨16, [], (.seq (.reg [⟨(some 4), none, (.mv (.t 0))⟩, ⟨(some 5), none, (.eq true .p (.t 4) (.k .nilp))⟩, ⟨(some 6), none, (.mv (.t 5))⟩, 
  ⟨(some 7), (some (6, true)), (.mv (.t 0))⟩, ⟨(some 8), (some (6, true)), (.nck (.t 7))⟩, ⟨(some 9), (some (6, true)), (.off 1 (.t 8))⟩, 
  ⟨(some 10), (some (6, true)), (.ld none (.t 9))⟩, ⟨(some 11), (some (6, true)), (.un .not (.t 10))⟩, ⟨(some 12), none, (.pick (.t 6) (.t 11) (.k (.bool false)))⟩]) (.cond (.t 12) 
  (.reg [⟨(some 13), none, (.mv (.t 0))⟩, ⟨(some 14), none, (.mv (.t 1))⟩, ⟨(some 15), none, (.call f_files_Disk_lose [(.t 13), (.t 14)])⟩]) .skip))⟩
theorem c_files_Disk_Off : compF Tryd.prog ⟨none, none⟩ Tryd.f13 = some r_files_Disk_Off := by kernel_rfl
/-- (*tenancy/files.Disk).Down -/
def r_files_Disk_Down : RF :=
  ⟨11, [(.tmp 2)], (.seq (.reg [⟨(some 2), none, (.mv (.k (.bool false)))⟩]) (.seq (.reg [⟨(some 3), none, (.mv (.t 0))⟩, ⟨(some 4), none, (.eq true .p (.t 3) (.k .nilp))⟩, 
  ⟨(some 5), none, (.mv (.t 4))⟩, ⟨(some 6), (some (5, true)), (.mv (.t 0))⟩, ⟨(some 7), (some (5, true)), (.nck (.t 6))⟩, ⟨(some 8), (some (5, true)), (.off 1 (.t 7))⟩, 
  ⟨(some 9), (some (5, true)), (.ld none (.t 8))⟩, ⟨(some 10), none, (.pick (.t 5) (.t 9) (.k (.bool false)))⟩, ⟨(some 2), none, (.mv (.t 10))⟩]) .ret))⟩
theorem c_files_Disk_Down : compF Tryd.prog ⟨none, none⟩ Tryd.f14 = some r_files_Disk_Down := by kernel_rfl
/-- (*tenancy/files.Disk).On -/
def r_files_Disk_On : RF :=
  ⟨10, [], (.seq (.reg [⟨(some 2), none, (.mv (.t 0))⟩, ⟨(some 3), none, (.eq true .p (.t 2) (.k .nilp))⟩]) (.cond (.t 3) (.reg [⟨(some 4), none, (.mv (.t 0))⟩, 
  ⟨(some 5), none, (.mv (.t 0))⟩, ⟨(some 6), none, (.nck (.t 4))⟩, ⟨(some 7), none, (.off 1 (.t 6))⟩, ⟨none, none, (.st none (.t 7) (.k (.bool false)))⟩, 
  ⟨(some 8), none, (.nck (.t 5))⟩, ⟨(some 9), none, (.off 2 (.t 8))⟩, ⟨none, none, (.st none (.t 9) (.k (.bool false)))⟩]) .skip))⟩
theorem c_files_Disk_On : compF Tryd.prog ⟨none, none⟩ Tryd.f15 = some r_files_Disk_On := by kernel_rfl
/-- (*tenancy/files.Disk).Names -/
def r_files_Disk_Names : RF :=
  ⟨11, [(.tmp 2)], (.seq (.reg [⟨(some 2), none, (.mv (.k .nils))⟩]) (.seq (.seq (.reg [⟨(some 3), none, (.mv (.t 0))⟩, ⟨(some 4), none, (.eq false .p (.t 3) (.k .nilp))⟩]) 
  (.cond (.t 4) (.seq (.reg [⟨(some 2), none, (.mv (.k .nils))⟩]) .ret) .skip)) (.seq (.reg [⟨(some 5), none, (.mv (.t 0))⟩, ⟨(some 6), none, (.nck (.t 5))⟩, 
  ⟨(some 7), none, (.off 0 (.t 6))⟩, ⟨(some 8), none, (.ld none (.t 7))⟩, ⟨(some 9), none, (.call f_maps_Keys_file [(.t 8)])⟩, 
  ⟨(some 10), none, (.call f_slices_Sorted_string [(.t 9)])⟩, ⟨(some 2), none, (.mv (.t 10))⟩]) .ret)))⟩
theorem c_files_Disk_Names : compF Tryd.prog ⟨none, none⟩ Tryd.f16 = some r_files_Disk_Names := by kernel_rfl
/-- (*tenancy/files.Disk).Rename -/
def r_files_Disk_Rename : RF :=
  ⟨44, [(.tmp 6)], (.seq (.reg [⟨(some 6), none, (.mv (.k (.int .i64 0)))⟩]) (.seq (.seq (.reg [⟨(some 11), none, (.mv (.t 0))⟩, ⟨(some 12), none, (.mv (.t 1))⟩, 
  ⟨(some 13), none, (.mv (.t 2))⟩, ⟨(some 14), none, (.bsl 1 2 [(.str (bts []))] [(0, (1, (.t 12))), (1, (1, (.t 13)))])⟩, 
  ⟨(some 15), none, (.call f_files_Disk_check [(.t 11), (.t 14)])⟩, ⟨(some 7), none, (.mv (.t 15))⟩]) (.seq (.reg [⟨(some 16), none, (.mv (.t 7))⟩, 
  ⟨(some 17), none, (.eq true .i (.t 16) (.k (.int .i64 0)))⟩]) (.cond (.t 17) (.seq (.reg [⟨(some 18), none, (.mv (.t 7))⟩, ⟨(some 6), none, (.mv (.t 18))⟩]) .ret) .skip))) (.seq 
  (.reg [⟨(some 20), none, (.mv (.t 0))⟩, ⟨(some 21), none, (.mv (.t 1))⟩, ⟨(some 22), none, (.call f_files_Disk_find [(.t 20), (.t 21)])⟩, ⟨(some 19), none, (.mv (.t 22))⟩, 
  ⟨(some 23), none, (.ext 0 (.t 19))⟩, ⟨(some 24), none, (.ext 1 (.t 19))⟩, ⟨(some 8), none, (.mv (.t 23))⟩, ⟨(some 9), none, (.mv (.t 24))⟩]) (.seq (.seq 
  (.reg [⟨(some 25), none, (.mv (.t 9))⟩, ⟨(some 26), none, (.eq true .i (.t 25) (.k (.int .i64 0)))⟩]) (.cond (.t 26) (.seq (.reg [⟨(some 27), none, (.mv (.t 9))⟩, 
  ⟨(some 6), none, (.mv (.t 27))⟩]) .ret) .skip)) (.seq (.seq (.reg [⟨(some 28), none, (.mv (.t 0))⟩, ⟨(some 29), none, (.call f_files_Disk_spend [(.t 28)])⟩, 
  ⟨(some 10), none, (.mv (.t 29))⟩]) (.seq (.reg [⟨(some 30), none, (.mv (.t 10))⟩, ⟨(some 31), none, (.eq true .i (.t 30) (.k (.int .i64 0)))⟩]) (.cond (.t 31) (.seq 
  (.reg [⟨(some 32), none, (.mv (.t 10))⟩, ⟨(some 6), none, (.mv (.t 32))⟩]) .ret) .skip))) (.seq (.reg [⟨(some 33), none, (.mv (.t 0))⟩, ⟨(some 34), none, (.nck (.t 33))⟩, 
  ⟨(some 35), none, (.off 0 (.t 34))⟩, ⟨(some 36), none, (.ld none (.t 35))⟩, ⟨(some 37), none, (.mv (.t 1))⟩, ⟨none, none, (.xt (.del .s) [(.t 36), (.t 37)])⟩]) (.seq 
  (.reg [⟨(some 38), none, (.mv (.t 0))⟩, ⟨(some 39), none, (.nck (.t 38))⟩, ⟨(some 40), none, (.off 0 (.t 39))⟩, ⟨(some 41), none, (.ld none (.t 40))⟩, 
  ⟨(some 42), none, (.mv (.t 2))⟩, ⟨(some 43), none, (.mv (.t 8))⟩, ⟨none, none, (.xt (.mup .s) [(.t 41), (.t 42), (.t 43)])⟩]) (.seq 
  (.reg [⟨(some 6), none, (.mv (.k (.int .i64 0)))⟩]) .ret))))))))⟩
theorem c_files_Disk_Rename : compF Tryd.prog ⟨none, none⟩ Tryd.f17 = some r_files_Disk_Rename := by kernel_rfl
/-- tenancy/tenancylaw06.names -/
def r_w06_names : RF :=
  ⟨26, [(.tmp 4)], (.seq (.reg [⟨(some 4), none, (.mv (.k (.bool false)))⟩]) (.seq (.seq (.reg [⟨(some 6), none, (.mv (.t 0))⟩, ⟨(some 7), none, (.lenl (.t 6))⟩, 
  ⟨(some 8), none, (.mv (.t 1))⟩, ⟨(some 9), none, (.lenl (.t 8))⟩, ⟨(some 10), none, (.eq true .i (.t 7) (.t 9))⟩]) (.cond (.t 10) (.seq 
  (.reg [⟨(some 4), none, (.mv (.k (.bool false)))⟩]) .ret) .skip)) (.seq (.seq (.reg [⟨(some 5), none, (.mv (.k (.int .i64 0)))⟩]) (.block 0 (.loop (.seq (.seq 
  (.reg [⟨(some 11), none, (.mv (.t 5))⟩, ⟨(some 12), none, (.mv (.t 0))⟩, ⟨(some 13), none, (.lenl (.t 12))⟩, ⟨(some 14), none, (.bin .lss (.t 11) (.t 13))⟩]) 
  (.cond (.t 14) .skip (.exit 0))) (.seq (.block 1 (.seq (.drw 0 [⟨⟨(some 17), none, (.mv (.t 0))⟩, .pure, [], []⟩, ⟨⟨(some 18), none, (.mv (.t 5))⟩, .pure, [], []⟩, 
  ⟨⟨(some 19), none, (.ixa 1 (.t 17) (.t 18))⟩, .pure, [], []⟩, ⟨⟨(some 20), none, (.ld none (.t 19))⟩, .ld, [], []⟩, ⟨⟨(some 21), none, (.mv (.t 1))⟩, .pure, [3], []⟩, 
  ⟨⟨(some 22), none, (.mv (.t 5))⟩, .pure, [3], []⟩, ⟨⟨(some 23), none, (.ixa 1 (.t 21) (.t 22))⟩, .pure, [3], []⟩, ⟨⟨(some 24), none, (.ld none (.t 23))⟩, .ld, [], []⟩, 
  ⟨⟨(some 25), none, (.eq true .s (.t 20) (.t 24))⟩, .pure, [], []⟩]) (.cond (.t 25) (.seq (.reg [⟨(some 4), none, (.mv (.k (.bool false)))⟩]) .ret) .skip))) 
  (.reg [⟨(some 15), none, (.mv (.t 5))⟩, ⟨(some 16), none, (.bin .add (.t 15) (.k (.int .i64 1)))⟩, ⟨(some 5), none, (.mv (.t 16))⟩])))))) (.seq 
  (.reg [⟨(some 4), none, (.mv (.k (.bool true)))⟩]) .ret))))⟩
theorem c_w06_names : compF Tryd.prog ⟨none, none⟩ Tryd.f18 = some r_w06_names := by kernel_rfl
/-- (*tenancy/files.Disk).Delete -/
def r_files_Disk_Delete : RF :=
  ⟨27, [(.tmp 4)], (.seq (.reg [⟨(some 4), none, (.mv (.k (.int .i64 0)))⟩]) (.seq (.seq (.reg [⟨(some 9), none, (.mv (.t 0))⟩, ⟨(some 10), none, (.mv (.t 1))⟩, 
  ⟨(some 11), none, (.call f_files_Disk_find [(.t 9), (.t 10)])⟩, ⟨(some 8), none, (.mv (.t 11))⟩, ⟨(some 12), none, (.ext 0 (.t 8))⟩, ⟨(some 13), none, (.ext 1 (.t 8))⟩, 
  ⟨(some 5), none, (.mv (.t 12))⟩, ⟨(some 6), none, (.mv (.t 13))⟩]) (.seq (.reg [⟨(some 14), none, (.mv (.t 6))⟩, ⟨(some 15), none, (.eq true .i (.t 14) (.k (.int .i64 0)))⟩]) 
  (.cond (.t 15) (.seq (.reg [⟨(some 16), none, (.mv (.t 6))⟩, ⟨(some 4), none, (.mv (.t 16))⟩]) .ret) .skip))) (.seq (.seq (.reg [⟨(some 17), none, (.mv (.t 0))⟩, 
  ⟨(some 18), none, (.call f_files_Disk_spend [(.t 17)])⟩, ⟨(some 7), none, (.mv (.t 18))⟩]) (.seq (.reg [⟨(some 19), none, (.mv (.t 7))⟩, 
  ⟨(some 20), none, (.eq true .i (.t 19) (.k (.int .i64 0)))⟩]) (.cond (.t 20) (.seq (.reg [⟨(some 21), none, (.mv (.t 7))⟩, ⟨(some 4), none, (.mv (.t 21))⟩]) .ret) .skip))) (.seq 
  (.reg [⟨(some 22), none, (.mv (.t 0))⟩, ⟨(some 23), none, (.nck (.t 22))⟩, ⟨(some 24), none, (.off 0 (.t 23))⟩, ⟨(some 25), none, (.ld none (.t 24))⟩, 
  ⟨(some 26), none, (.mv (.t 1))⟩, ⟨none, none, (.xt (.del .s) [(.t 25), (.t 26)])⟩]) (.seq (.reg [⟨(some 4), none, (.mv (.k (.int .i64 0)))⟩]) .ret)))))⟩
theorem c_files_Disk_Delete : compF Tryd.prog ⟨none, none⟩ Tryd.f19 = some r_files_Disk_Delete := by kernel_rfl
/-- tenancy/tenancyref06.New -/
def r_r06_New : RF :=
  ⟨3, [(.tmp 0)], (.seq (.reg [⟨(some 0), none, (.mv (.k .nilp))⟩]) (.seq 
  (.reg [⟨(some 1), none, (.bld [.nils, (.bool false), (.int .i64 0), (.int .i64 0), (.int .i64 0)] [(2, (1, (.k (.int .i64 (-1)))))])⟩, ⟨(some 2), none, (.box (some 5) (.t 1))⟩, 
  ⟨(some 0), none, (.mv (.t 2))⟩]) .ret))⟩
theorem c_r06_New : compF Tryd.prog ⟨none, none⟩ Tryd.f20 = some r_r06_New := by kernel_rfl
/-- tenancy/tenancylaw06.right -/
def r_w06_right : RF :=
  ⟨134, [(.tmp 6)], (.seq (.reg [⟨(some 5), none, (.box (some 6) (.t 2))⟩, ⟨(some 6), none, (.mv (.k (.bool false)))⟩]) (.seq (.seq (.reg [⟨(some 11), none, (.off 0 (.t 5))⟩, 
  ⟨(some 12), none, (.ld none (.t 11))⟩]) (.block 0 (.seq (.reg [⟨(some 14), none, (.eq false .i (.t 12) (.k (.int .i64 1)))⟩, ⟨(some 13), none, (.mv (.t 14))⟩]) (.cond (.t 13) 
  (.seq (.drw 0 [⟨⟨(some 15), none, (.mv (.t 0))⟩, .pure, [], []⟩, ⟨⟨(some 16), none, (.off 2 (.t 5))⟩, .pure, [], []⟩, ⟨⟨(some 17), none, (.ld none (.t 16))⟩, .ld, [], []⟩, 
  ⟨⟨(some 18), none, (.off 3 (.t 5))⟩, .pure, [2], []⟩, ⟨⟨(some 19), none, (.ld none (.t 18))⟩, .ld, [], []⟩, 
  ⟨⟨(some 20), none, (.call f_files_Disk_Append [(.t 15), (.t 17), (.t 19)])⟩, .eff, [], []⟩, ⟨⟨(some 21), none, (.mv (.t 1))⟩, .pure, [2, 4], []⟩, 
  ⟨⟨(some 22), none, (.off 2 (.t 5))⟩, .pure, [2, 4], []⟩, ⟨⟨(some 23), none, (.ld none (.t 22))⟩, .ld, [5], []⟩, ⟨⟨(some 24), none, (.off 3 (.t 5))⟩, .pure, [2, 4, 8], []⟩, 
  ⟨⟨(some 25), none, (.ld none (.t 24))⟩, .ld, [5], []⟩, ⟨⟨(some 26), none, (.call f_r06_Disk_Append [(.t 21), (.t 23), (.t 25)])⟩, .eff, [], []⟩, 
  ⟨⟨(some 27), none, (.eq false .i (.t 20) (.t 26))⟩, .pure, [], []⟩, ⟨⟨(some 6), none, (.mv (.t 27))⟩, .pure, [], []⟩]) .ret) (.seq 
  (.reg [⟨(some 29), none, (.eq false .i (.t 12) (.k (.int .i64 2)))⟩, ⟨(some 28), none, (.mv (.t 29))⟩]) (.cond (.t 28) (.seq 
  (.drw 0 [⟨⟨(some 30), none, (.mv (.t 0))⟩, .pure, [], []⟩, ⟨⟨(some 31), none, (.off 2 (.t 5))⟩, .pure, [], []⟩, ⟨⟨(some 32), none, (.ld none (.t 31))⟩, .ld, [], []⟩, 
  ⟨⟨(some 33), none, (.call f_files_Disk_Sync [(.t 30), (.t 32)])⟩, .eff, [], []⟩, ⟨⟨(some 34), none, (.mv (.t 1))⟩, .pure, [2], []⟩, 
  ⟨⟨(some 35), none, (.off 2 (.t 5))⟩, .pure, [2], []⟩, ⟨⟨(some 36), none, (.ld none (.t 35))⟩, .ld, [3], []⟩, 
  ⟨⟨(some 37), none, (.call f_r06_Disk_Sync [(.t 34), (.t 36)])⟩, .eff, [], []⟩, ⟨⟨(some 38), none, (.eq false .i (.t 33) (.t 37))⟩, .pure, [], []⟩, 
  ⟨⟨(some 6), none, (.mv (.t 38))⟩, .pure, [], []⟩]) .ret) (.seq (.reg [⟨(some 40), none, (.eq false .i (.t 12) (.k (.int .i64 3)))⟩, ⟨(some 39), none, (.mv (.t 40))⟩]) 
  (.cond (.t 39) (.seq (.drw 0 [⟨⟨(some 41), none, (.mv (.t 0))⟩, .pure, [], []⟩, ⟨⟨(some 42), none, (.off 2 (.t 5))⟩, .pure, [], []⟩, 
  ⟨⟨(some 43), none, (.ld none (.t 42))⟩, .ld, [], []⟩, ⟨⟨(some 44), none, (.off 4 (.t 5))⟩, .pure, [2], []⟩, ⟨⟨(some 45), none, (.ld none (.t 44))⟩, .ld, [], []⟩, 
  ⟨⟨(some 46), none, (.call f_files_Disk_Cut [(.t 41), (.t 43), (.t 45)])⟩, .eff, [], []⟩, ⟨⟨(some 47), none, (.mv (.t 1))⟩, .pure, [2, 4], []⟩, 
  ⟨⟨(some 48), none, (.off 2 (.t 5))⟩, .pure, [2, 4], []⟩, ⟨⟨(some 49), none, (.ld none (.t 48))⟩, .ld, [5], []⟩, ⟨⟨(some 50), none, (.off 4 (.t 5))⟩, .pure, [2, 4, 8], []⟩, 
  ⟨⟨(some 51), none, (.ld none (.t 50))⟩, .ld, [5], []⟩, ⟨⟨(some 52), none, (.call f_r06_Disk_Cut [(.t 47), (.t 49), (.t 51)])⟩, .eff, [], []⟩, 
  ⟨⟨(some 53), none, (.eq false .i (.t 46) (.t 52))⟩, .pure, [], []⟩, ⟨⟨(some 6), none, (.mv (.t 53))⟩, .pure, [], []⟩]) .ret) (.seq 
  (.reg [⟨(some 55), none, (.eq false .i (.t 12) (.k (.int .i64 4)))⟩, ⟨(some 54), none, (.mv (.t 55))⟩]) (.cond (.t 54) (.seq 
  (.drw 0 [⟨⟨(some 56), none, (.mv (.t 0))⟩, .pure, [], []⟩, ⟨⟨(some 57), none, (.off 2 (.t 5))⟩, .pure, [], []⟩, ⟨⟨(some 58), none, (.ld none (.t 57))⟩, .ld, [], []⟩, 
  ⟨⟨(some 59), none, (.off 3 (.t 5))⟩, .pure, [2], []⟩, ⟨⟨(some 60), none, (.ld none (.t 59))⟩, .ld, [], []⟩, 
  ⟨⟨(some 61), none, (.call f_files_Disk_Rename [(.t 56), (.t 58), (.t 60)])⟩, .eff, [], []⟩, ⟨⟨(some 62), none, (.mv (.t 1))⟩, .pure, [2, 4], []⟩, 
  ⟨⟨(some 63), none, (.off 2 (.t 5))⟩, .pure, [2, 4], []⟩, ⟨⟨(some 64), none, (.ld none (.t 63))⟩, .ld, [5], []⟩, ⟨⟨(some 65), none, (.off 3 (.t 5))⟩, .pure, [2, 4, 8], []⟩, 
  ⟨⟨(some 66), none, (.ld none (.t 65))⟩, .ld, [5], []⟩, ⟨⟨(some 67), none, (.call f_r06_Disk_Rename [(.t 62), (.t 64), (.t 66)])⟩, .eff, [], []⟩, 
  ⟨⟨(some 68), none, (.eq false .i (.t 61) (.t 67))⟩, .pure, [], []⟩, ⟨⟨(some 6), none, (.mv (.t 68))⟩, .pure, [], []⟩]) .ret) (.seq 
  (.reg [⟨(some 70), none, (.eq false .i (.t 12) (.k (.int .i64 5)))⟩, ⟨(some 69), none, (.mv (.t 70))⟩]) (.cond (.t 69) (.seq 
  (.drw 0 [⟨⟨(some 71), none, (.mv (.t 0))⟩, .pure, [], []⟩, ⟨⟨(some 72), none, (.off 2 (.t 5))⟩, .pure, [], []⟩, ⟨⟨(some 73), none, (.ld none (.t 72))⟩, .ld, [], []⟩, 
  ⟨⟨(some 74), none, (.call f_files_Disk_Delete [(.t 71), (.t 73)])⟩, .eff, [], []⟩, ⟨⟨(some 75), none, (.mv (.t 1))⟩, .pure, [2], []⟩, 
  ⟨⟨(some 76), none, (.off 2 (.t 5))⟩, .pure, [2], []⟩, ⟨⟨(some 77), none, (.ld none (.t 76))⟩, .ld, [3], []⟩, 
  ⟨⟨(some 78), none, (.call f_r06_Disk_Delete [(.t 75), (.t 77)])⟩, .eff, [], []⟩, ⟨⟨(some 79), none, (.eq false .i (.t 74) (.t 78))⟩, .pure, [], []⟩, 
  ⟨⟨(some 6), none, (.mv (.t 79))⟩, .pure, [], []⟩]) .ret) (.seq (.reg [⟨(some 81), none, (.eq false .i (.t 12) (.k (.int .i64 6)))⟩, ⟨(some 80), none, (.mv (.t 81))⟩]) 
  (.cond (.t 80) (.seq (.reg [⟨(some 83), none, (.mv (.t 0))⟩, ⟨(some 84), none, (.off 2 (.t 5))⟩, ⟨(some 85), none, (.ld none (.t 84))⟩, 
  ⟨(some 86), none, (.call f_files_Disk_Read [(.t 83), (.t 85)])⟩, ⟨(some 82), none, (.mv (.t 86))⟩, ⟨(some 87), none, (.ext 0 (.t 82))⟩, ⟨(some 88), none, (.ext 1 (.t 82))⟩, 
  ⟨(some 7), none, (.mv (.t 87))⟩, ⟨(some 8), none, (.mv (.t 88))⟩]) (.seq (.reg [⟨(some 90), none, (.mv (.t 1))⟩, ⟨(some 91), none, (.off 2 (.t 5))⟩, 
  ⟨(some 92), none, (.ld none (.t 91))⟩, ⟨(some 93), none, (.call f_r06_Disk_Read [(.t 90), (.t 92)])⟩, ⟨(some 89), none, (.mv (.t 93))⟩, ⟨(some 94), none, (.ext 0 (.t 89))⟩, 
  ⟨(some 95), none, (.ext 1 (.t 89))⟩, ⟨(some 9), none, (.mv (.t 94))⟩, ⟨(some 10), none, (.mv (.t 95))⟩]) (.seq (.reg [⟨(some 96), none, (.mv (.t 7))⟩, 
  ⟨(some 97), none, (.mv (.t 9))⟩, ⟨(some 98), none, (.eq false .s (.t 96) (.t 97))⟩, ⟨(some 99), none, (.mv (.t 98))⟩, ⟨(some 100), (some (99, true)), (.mv (.t 8))⟩, 
  ⟨(some 101), (some (99, true)), (.mv (.t 10))⟩, ⟨(some 102), (some (99, true)), (.eq false .i (.t 100) (.t 101))⟩, ⟨(some 103), none, (.pick (.t 99) (.t 102) (.k (.bool false)))⟩, 
  ⟨(some 6), none, (.mv (.t 103))⟩]) .ret))) (.seq (.reg [⟨(some 105), none, (.eq false .i (.t 12) (.k (.int .i64 7)))⟩, ⟨(some 104), none, (.mv (.t 105))⟩]) (.cond (.t 104) (.seq 
  (.reg [⟨(some 106), none, (.mv (.t 0))⟩, ⟨(some 107), none, (.off 4 (.t 5))⟩, ⟨(some 108), none, (.ld none (.t 107))⟩, ⟨(some 109), none, (.off 5 (.t 5))⟩, 
  ⟨(some 110), none, (.ld none (.t 109))⟩, ⟨(some 111), none, (.call f_files_Disk_Arm [(.t 106), (.t 108), (.t 110)])⟩]) (.reg [⟨(some 112), none, (.mv (.t 1))⟩, 
  ⟨(some 113), none, (.off 4 (.t 5))⟩, ⟨(some 114), none, (.ld none (.t 113))⟩, ⟨(some 115), none, (.off 5 (.t 5))⟩, ⟨(some 116), none, (.ld none (.t 115))⟩, 
  ⟨(some 117), none, (.call f_r06_Disk_Arm [(.t 112), (.t 114), (.t 116)])⟩])) (.seq (.reg [⟨(some 119), none, (.eq false .i (.t 12) (.k (.int .i64 8)))⟩, 
  ⟨(some 118), none, (.mv (.t 119))⟩]) (.cond (.t 118) (.seq (.reg [⟨(some 120), none, (.mv (.t 0))⟩, ⟨(some 121), none, (.off 5 (.t 5))⟩, ⟨(some 122), none, (.ld none (.t 121))⟩, 
  ⟨(some 123), none, (.call f_files_Disk_Off [(.t 120), (.t 122)])⟩]) (.reg [⟨(some 124), none, (.mv (.t 1))⟩, ⟨(some 125), none, (.off 5 (.t 5))⟩, 
  ⟨(some 126), none, (.ld none (.t 125))⟩, ⟨(some 127), none, (.call f_r06_Disk_Off [(.t 124), (.t 126)])⟩])) (.seq 
  (.reg [⟨(some 129), none, (.eq false .i (.t 12) (.k (.int .i64 9)))⟩, ⟨(some 128), none, (.mv (.t 129))⟩]) (.cond (.t 128) (.seq (.reg [⟨(some 130), none, (.mv (.t 0))⟩, 
  ⟨(some 131), none, (.call f_files_Disk_On [(.t 130)])⟩]) (.reg [⟨(some 132), none, (.mv (.t 1))⟩, ⟨(some 133), none, (.call f_r06_Disk_On [(.t 132)])⟩])) .skip)))))))))))))))))))) 
  (.seq (.reg [⟨(some 6), none, (.mv (.k (.bool true)))⟩]) .ret)))⟩
theorem c_w06_right : compF Tryd.prog ⟨none, none⟩ Tryd.f21 = some r_w06_right := by kernel_rfl
/-- (*tenancy/tenancyref06.Disk).Down -/
def r_r06_Disk_Down : RF :=
  ⟨11, [(.tmp 2)], (.seq (.reg [⟨(some 2), none, (.mv (.k (.bool false)))⟩]) (.seq (.reg [⟨(some 3), none, (.mv (.t 0))⟩, ⟨(some 4), none, (.eq true .p (.t 3) (.k .nilp))⟩, 
  ⟨(some 5), none, (.mv (.t 4))⟩, ⟨(some 6), (some (5, true)), (.mv (.t 0))⟩, ⟨(some 7), (some (5, true)), (.nck (.t 6))⟩, ⟨(some 8), (some (5, true)), (.off 1 (.t 7))⟩, 
  ⟨(some 9), (some (5, true)), (.ld none (.t 8))⟩, ⟨(some 10), none, (.pick (.t 5) (.t 9) (.k (.bool false)))⟩, ⟨(some 2), none, (.mv (.t 10))⟩]) .ret))⟩
theorem c_r06_Disk_Down : compF Tryd.prog ⟨none, none⟩ Tryd.f22 = some r_r06_Disk_Down := by kernel_rfl
/-- (*tenancy/files.Disk).Steps -/
def r_files_Disk_Steps : RF :=
  ⟨9, [(.tmp 2)], (.seq (.reg [⟨(some 2), none, (.mv (.k (.int .i64 0)))⟩]) (.seq (.seq (.reg [⟨(some 3), none, (.mv (.t 0))⟩, ⟨(some 4), none, (.eq false .p (.t 3) (.k .nilp))⟩]) 
  (.cond (.t 4) (.seq (.reg [⟨(some 2), none, (.mv (.k (.int .i64 0)))⟩]) .ret) .skip)) (.seq (.reg [⟨(some 5), none, (.mv (.t 0))⟩, ⟨(some 6), none, (.nck (.t 5))⟩, 
  ⟨(some 7), none, (.off 5 (.t 6))⟩, ⟨(some 8), none, (.ld none (.t 7))⟩, ⟨(some 2), none, (.mv (.t 8))⟩]) .ret)))⟩
theorem c_files_Disk_Steps : compF Tryd.prog ⟨none, none⟩ Tryd.f23 = some r_files_Disk_Steps := by kernel_rfl
/-- (*tenancy/tenancyref06.Disk).Steps -/
def r_r06_Disk_Steps : RF :=
  ⟨9, [(.tmp 2)], (.seq (.reg [⟨(some 2), none, (.mv (.k (.int .i64 0)))⟩]) (.seq (.seq (.reg [⟨(some 3), none, (.mv (.t 0))⟩, ⟨(some 4), none, (.eq false .p (.t 3) (.k .nilp))⟩]) 
  (.cond (.t 4) (.seq (.reg [⟨(some 2), none, (.mv (.k (.int .i64 0)))⟩]) .ret) .skip)) (.seq (.reg [⟨(some 5), none, (.mv (.t 0))⟩, ⟨(some 6), none, (.nck (.t 5))⟩, 
  ⟨(some 7), none, (.off 4 (.t 6))⟩, ⟨(some 8), none, (.ld none (.t 7))⟩, ⟨(some 2), none, (.mv (.t 8))⟩]) .ret)))⟩
theorem c_r06_Disk_Steps : compF Tryd.prog ⟨none, none⟩ Tryd.f24 = some r_r06_Disk_Steps := by kernel_rfl
/-- (*tenancy/tenancyref06.Disk).Safe -/
def r_r06_Disk_Safe : RF :=
  ⟨23, [(.tmp 4)], (.seq (.reg [⟨(some 4), none, (.mv (.k (.int .i64 0)))⟩]) (.seq (.seq (.reg [⟨(some 5), none, (.mv (.t 0))⟩, ⟨(some 6), none, (.eq false .p (.t 5) (.k .nilp))⟩, 
  ⟨(some 7), none, (.mv (.t 6))⟩, ⟨(some 8), (some (7, false)), (.mv (.t 0))⟩, ⟨(some 9), (some (7, false)), (.mv (.t 1))⟩, 
  ⟨(some 10), (some (7, false)), (.call f_r06_Disk_place [(.t 8), (.t 9)])⟩, ⟨(some 11), (some (7, false)), (.bin .lss (.t 10) (.k (.int .i64 0)))⟩, 
  ⟨(some 12), none, (.pick (.t 7) (.k (.bool true)) (.t 11))⟩]) (.cond (.t 12) (.seq (.reg [⟨(some 4), none, (.mv (.k (.int .i64 0)))⟩]) .ret) .skip)) (.seq 
  (.drw 0 [⟨⟨(some 13), none, (.mv (.t 0))⟩, .pure, [], []⟩, ⟨⟨(some 14), none, (.nck (.t 13))⟩, .pure, [], []⟩, ⟨⟨(some 15), none, (.off 0 (.t 14))⟩, .pure, [], []⟩, 
  ⟨⟨(some 16), none, (.ld none (.t 15))⟩, .ld, [], []⟩, ⟨⟨(some 17), none, (.mv (.t 0))⟩, .pure, [3], []⟩, ⟨⟨(some 18), none, (.mv (.t 1))⟩, .pure, [3], []⟩, 
  ⟨⟨(some 19), none, (.call f_r06_Disk_place [(.t 17), (.t 18)])⟩, .eff, [3], []⟩, ⟨⟨(some 20), none, (.ixa 3 (.t 16) (.t 19))⟩, .pure, [], []⟩, 
  ⟨⟨(some 21), none, (.off 2 (.t 20))⟩, .pure, [], []⟩, ⟨⟨(some 22), none, (.ld none (.t 21))⟩, .ld, [], []⟩, ⟨⟨(some 4), none, (.mv (.t 22))⟩, .pure, [], []⟩]) .ret)))⟩
theorem c_r06_Disk_Safe : compF Tryd.prog ⟨none, none⟩ Tryd.f25 = some r_r06_Disk_Safe := by kernel_rfl
/-- (*tenancy/tenancyref06.Disk).Names -/
def r_r06_Disk_Names : RF :=
  ⟨31, [(.tmp 2)], (.seq (.reg [⟨(some 2), none, (.mv (.k .nils))⟩]) (.seq (.reg [⟨(some 5), none, (.bsl 1 0 [(.str (bts []))] [])⟩, ⟨(some 3), none, (.mv (.t 5))⟩]) (.seq (.seq 
  (.reg [⟨(some 4), none, (.mv (.k (.int .i64 0)))⟩]) (.block 0 (.loop (.seq (.seq (.reg [⟨(some 6), none, (.mv (.t 0))⟩, ⟨(some 7), none, (.eq true .p (.t 6) (.k .nilp))⟩, 
  ⟨(some 8), none, (.mv (.t 7))⟩, ⟨(some 9), (some (8, true)), (.mv (.t 4))⟩, ⟨(some 10), (some (8, true)), (.mv (.t 0))⟩, ⟨(some 11), (some (8, true)), (.nck (.t 10))⟩, 
  ⟨(some 12), (some (8, true)), (.off 0 (.t 11))⟩, ⟨(some 13), (some (8, true)), (.ld none (.t 12))⟩, ⟨(some 14), (some (8, true)), (.lenl (.t 13))⟩, 
  ⟨(some 15), (some (8, true)), (.bin .lss (.t 9) (.t 14))⟩, ⟨(some 16), none, (.pick (.t 8) (.t 15) (.k (.bool false)))⟩]) (.cond (.t 16) .skip (.exit 0))) (.seq (.block 1 
  (.reg [⟨(some 19), none, (.mv (.t 3))⟩, ⟨(some 20), none, (.mv (.t 0))⟩, ⟨(some 21), none, (.nck (.t 20))⟩, ⟨(some 22), none, (.off 0 (.t 21))⟩, 
  ⟨(some 23), none, (.ld none (.t 22))⟩, ⟨(some 24), none, (.mv (.t 4))⟩, ⟨(some 25), none, (.ixa 3 (.t 23) (.t 24))⟩, ⟨(some 26), none, (.off 0 (.t 25))⟩, 
  ⟨(some 27), none, (.ld none (.t 26))⟩, ⟨(some 28), none, (.bsl 1 1 [(.str (bts []))] [(0, (1, (.t 27)))])⟩, ⟨(some 29), none, (.app 1 16 (.t 19) (.t 28))⟩, 
  ⟨(some 3), none, (.mv (.t 29))⟩])) (.reg [⟨(some 17), none, (.mv (.t 4))⟩, ⟨(some 18), none, (.bin .add (.t 17) (.k (.int .i64 1)))⟩, ⟨(some 4), none, (.mv (.t 18))⟩])))))) (.seq 
  (.reg [⟨(some 30), none, (.mv (.t 3))⟩, ⟨(some 2), none, (.mv (.t 30))⟩]) .ret))))⟩
theorem c_r06_Disk_Names : compF Tryd.prog ⟨none, none⟩ Tryd.f26 = some r_r06_Disk_Names := by kernel_rfl
/-- (*tenancy/tenancyref06.Disk).On -/
def r_r06_Disk_On : RF :=
  ⟨10, [], (.seq (.reg [⟨(some 2), none, (.mv (.t 0))⟩, ⟨(some 3), none, (.eq true .p (.t 2) (.k .nilp))⟩]) (.cond (.t 3) (.seq (.reg [⟨(some 4), none, (.mv (.t 0))⟩, 
  ⟨(some 5), none, (.nck (.t 4))⟩, ⟨(some 6), none, (.off 1 (.t 5))⟩, ⟨none, none, (.st none (.t 6) (.k (.bool false)))⟩]) (.reg [⟨(some 7), none, (.mv (.t 0))⟩, 
  ⟨(some 8), none, (.nck (.t 7))⟩, ⟨(some 9), none, (.off 2 (.t 8))⟩, ⟨none, none, (.st none (.t 9) (.k (.int .i64 (-1))))⟩])) .skip))⟩
theorem c_r06_Disk_On : compF Tryd.prog ⟨none, none⟩ Tryd.f27 = some r_r06_Disk_On := by kernel_rfl
/-- (*tenancy/tenancyref06.Disk).Read -/
def r_r06_Disk_Read : RF :=
  ⟨27, [(.tmp 4), (.tmp 5)], (.seq (.reg [⟨(some 4), none, (.mv (.k (.str (bts []))))⟩, ⟨(some 5), none, (.mv (.k (.int .i64 0)))⟩]) (.seq (.seq 
  (.reg [⟨(some 8), none, (.mv (.t 0))⟩, ⟨(some 9), none, (.mv (.t 1))⟩, ⟨(some 10), none, (.call f_r06_Disk_check [(.t 8), (.t 9)])⟩, ⟨(some 6), none, (.mv (.t 10))⟩]) (.seq 
  (.reg [⟨(some 11), none, (.mv (.t 6))⟩, ⟨(some 12), none, (.eq true .i (.t 11) (.k (.int .i64 0)))⟩]) (.cond (.t 12) (.seq (.reg [⟨(some 13), none, (.mv (.t 6))⟩, 
  ⟨(some 4), none, (.mv (.k (.str (bts []))))⟩, ⟨(some 5), none, (.mv (.t 13))⟩]) .ret) .skip))) (.seq (.reg [⟨(some 14), none, (.mv (.t 0))⟩, ⟨(some 15), none, (.mv (.t 1))⟩, 
  ⟨(some 16), none, (.call f_r06_Disk_place [(.t 14), (.t 15)])⟩, ⟨(some 7), none, (.mv (.t 16))⟩]) (.seq (.seq (.reg [⟨(some 17), none, (.mv (.t 7))⟩, 
  ⟨(some 18), none, (.bin .lss (.t 17) (.k (.int .i64 0)))⟩]) (.cond (.t 18) (.seq (.reg [⟨(some 4), none, (.mv (.k (.str (bts []))))⟩, 
  ⟨(some 5), none, (.mv (.k (.int .i64 62)))⟩]) .ret) .skip)) (.seq (.reg [⟨(some 19), none, (.mv (.t 0))⟩, ⟨(some 20), none, (.nck (.t 19))⟩, ⟨(some 21), none, (.off 0 (.t 20))⟩, 
  ⟨(some 22), none, (.ld none (.t 21))⟩, ⟨(some 23), none, (.mv (.t 7))⟩, ⟨(some 24), none, (.ixa 3 (.t 22) (.t 23))⟩, ⟨(some 25), none, (.off 1 (.t 24))⟩, 
  ⟨(some 26), none, (.ld none (.t 25))⟩, ⟨(some 4), none, (.mv (.t 26))⟩, ⟨(some 5), none, (.mv (.k (.int .i64 0)))⟩]) .ret)))))⟩
theorem c_r06_Disk_Read : compF Tryd.prog ⟨none, none⟩ Tryd.f28 = some r_r06_Disk_Read := by kernel_rfl
/-- (*tenancy/files.Disk).Arm -/
def r_files_Disk_Arm : RF :=
  ⟨28, [], (.seq (.reg [⟨(some 6), none, (.mv (.t 0))⟩, ⟨(some 7), none, (.eq true .p (.t 6) (.k .nilp))⟩, ⟨(some 8), none, (.mv (.t 7))⟩, 
  ⟨(some 9), (some (8, true)), (.mv (.t 0))⟩, ⟨(some 10), (some (8, true)), (.nck (.t 9))⟩, ⟨(some 11), (some (8, true)), (.off 1 (.t 10))⟩, 
  ⟨(some 12), (some (8, true)), (.ld none (.t 11))⟩, ⟨(some 13), (some (8, true)), (.un .not (.t 12))⟩, ⟨(some 14), none, (.pick (.t 8) (.t 13) (.k (.bool false)))⟩]) (.cond (.t 14) 
  (.reg [⟨(some 15), none, (.mv (.t 0))⟩, ⟨(some 16), none, (.mv (.t 0))⟩, ⟨(some 17), none, (.mv (.t 0))⟩, ⟨(some 18), none, (.mv (.t 1))⟩, 
  ⟨(some 19), none, (.bin .geq (.t 18) (.k (.int .i64 0)))⟩, ⟨(some 20), none, (.mv (.t 1))⟩, ⟨(some 21), none, (.mv (.t 2))⟩, ⟨(some 22), none, (.nck (.t 15))⟩, 
  ⟨(some 23), none, (.off 2 (.t 22))⟩, ⟨none, none, (.st none (.t 23) (.t 19))⟩, ⟨(some 24), none, (.nck (.t 16))⟩, ⟨(some 25), none, (.off 3 (.t 24))⟩, 
  ⟨none, none, (.st none (.t 25) (.t 20))⟩, ⟨(some 26), none, (.nck (.t 17))⟩, ⟨(some 27), none, (.off 4 (.t 26))⟩, ⟨none, none, (.st none (.t 27) (.t 21))⟩]) .skip))⟩
theorem c_files_Disk_Arm : compF Tryd.prog ⟨none, none⟩ Tryd.f29 = some r_files_Disk_Arm := by kernel_rfl
/-- tenancy/tenancylaw06.act -/
def r_w06_act : RF :=
  ⟨41, [(.tmp 4)], (.seq (.reg [⟨(some 3), none, (.box (some 6) (.t 1))⟩, ⟨(some 4), none, (.mv (.k (.int .i64 0)))⟩]) (.seq (.seq (.reg [⟨(some 5), none, (.off 0 (.t 3))⟩, 
  ⟨(some 6), none, (.ld none (.t 5))⟩]) (.block 0 (.seq (.reg [⟨(some 8), none, (.eq false .i (.t 6) (.k (.int .i64 1)))⟩, ⟨(some 7), none, (.mv (.t 8))⟩]) (.cond (.t 7) (.seq 
  (.reg [⟨(some 9), none, (.mv (.t 0))⟩, ⟨(some 10), none, (.off 2 (.t 3))⟩, ⟨(some 11), none, (.ld none (.t 10))⟩, ⟨(some 12), none, (.off 3 (.t 3))⟩, 
  ⟨(some 13), none, (.ld none (.t 12))⟩, ⟨(some 14), none, (.call f_files_Disk_Append [(.t 9), (.t 11), (.t 13)])⟩, ⟨(some 4), none, (.mv (.t 14))⟩]) .ret) (.seq 
  (.reg [⟨(some 16), none, (.eq false .i (.t 6) (.k (.int .i64 2)))⟩, ⟨(some 15), none, (.mv (.t 16))⟩]) (.cond (.t 15) (.seq (.reg [⟨(some 17), none, (.mv (.t 0))⟩, 
  ⟨(some 18), none, (.off 2 (.t 3))⟩, ⟨(some 19), none, (.ld none (.t 18))⟩, ⟨(some 20), none, (.call f_files_Disk_Sync [(.t 17), (.t 19)])⟩, ⟨(some 4), none, (.mv (.t 20))⟩]) .ret) 
  (.seq (.reg [⟨(some 22), none, (.eq false .i (.t 6) (.k (.int .i64 3)))⟩, ⟨(some 21), none, (.mv (.t 22))⟩]) (.cond (.t 21) (.seq (.reg [⟨(some 23), none, (.mv (.t 0))⟩, 
  ⟨(some 24), none, (.off 2 (.t 3))⟩, ⟨(some 25), none, (.ld none (.t 24))⟩, ⟨(some 26), none, (.off 4 (.t 3))⟩, ⟨(some 27), none, (.ld none (.t 26))⟩, 
  ⟨(some 28), none, (.call f_files_Disk_Cut [(.t 23), (.t 25), (.t 27)])⟩, ⟨(some 4), none, (.mv (.t 28))⟩]) .ret) (.seq 
  (.reg [⟨(some 30), none, (.eq false .i (.t 6) (.k (.int .i64 4)))⟩, ⟨(some 29), none, (.mv (.t 30))⟩]) (.cond (.t 29) (.seq (.reg [⟨(some 31), none, (.mv (.t 0))⟩, 
  ⟨(some 32), none, (.off 2 (.t 3))⟩, ⟨(some 33), none, (.ld none (.t 32))⟩, ⟨(some 34), none, (.off 3 (.t 3))⟩, ⟨(some 35), none, (.ld none (.t 34))⟩, 
  ⟨(some 36), none, (.call f_files_Disk_Rename [(.t 31), (.t 33), (.t 35)])⟩, ⟨(some 4), none, (.mv (.t 36))⟩]) .ret) .skip)))))))))) (.seq (.reg [⟨(some 37), none, (.mv (.t 0))⟩, 
  ⟨(some 38), none, (.off 2 (.t 3))⟩, ⟨(some 39), none, (.ld none (.t 38))⟩, ⟨(some 40), none, (.call f_files_Disk_Delete [(.t 37), (.t 39)])⟩, 
  ⟨(some 4), none, (.mv (.t 40))⟩]) .ret)))⟩
theorem c_w06_act : compF Tryd.prog ⟨none, none⟩ Tryd.f30 = some r_w06_act := by kernel_rfl
/-- (*tenancy/files.Disk).find -/
def r_files_Disk_find : RF :=
  ⟨24, [(.tmp 4), (.tmp 5)], (.seq (.reg [⟨(some 4), none, (.mv (.k .nilp))⟩, ⟨(some 5), none, (.mv (.k (.int .i64 0)))⟩]) (.seq (.seq (.reg [⟨(some 8), none, (.mv (.t 0))⟩, 
  ⟨(some 9), none, (.mv (.t 1))⟩, ⟨(some 10), none, (.bsl 1 1 [(.str (bts []))] [(0, (1, (.t 9)))])⟩, ⟨(some 11), none, (.call f_files_Disk_check [(.t 8), (.t 10)])⟩, 
  ⟨(some 6), none, (.mv (.t 11))⟩]) (.seq (.reg [⟨(some 12), none, (.mv (.t 6))⟩, ⟨(some 13), none, (.eq true .i (.t 12) (.k (.int .i64 0)))⟩]) (.cond (.t 13) (.seq 
  (.reg [⟨(some 14), none, (.mv (.t 6))⟩, ⟨(some 4), none, (.mv (.k .nilp))⟩, ⟨(some 5), none, (.mv (.t 14))⟩]) .ret) .skip))) (.seq (.reg [⟨(some 15), none, (.mv (.t 0))⟩, 
  ⟨(some 16), none, (.nck (.t 15))⟩, ⟨(some 17), none, (.off 0 (.t 16))⟩, ⟨(some 18), none, (.ld none (.t 17))⟩, ⟨(some 19), none, (.mv (.t 1))⟩, 
  ⟨(some 20), none, (.xt (.lku .s .nilp false) [(.t 18), (.t 19)])⟩, ⟨(some 7), none, (.mv (.t 20))⟩]) (.seq (.seq (.reg [⟨(some 21), none, (.mv (.t 7))⟩, 
  ⟨(some 22), none, (.eq false .p (.t 21) (.k .nilp))⟩]) (.cond (.t 22) (.seq (.reg [⟨(some 4), none, (.mv (.k .nilp))⟩, ⟨(some 5), none, (.mv (.k (.int .i64 62)))⟩]) .ret) .skip)) 
  (.seq (.reg [⟨(some 23), none, (.mv (.t 7))⟩, ⟨(some 4), none, (.mv (.t 23))⟩, ⟨(some 5), none, (.mv (.k (.int .i64 0)))⟩]) .ret)))))⟩
theorem c_files_Disk_find : compF Tryd.prog ⟨none, none⟩ Tryd.f31 = some r_files_Disk_find := by kernel_rfl
/-- (*tenancy/files.Disk).spend -/
def r_files_Disk_spend : RF :=
  ⟨34, [(.tmp 2)], (.seq (.reg [⟨(some 2), none, (.mv (.k (.int .i64 0)))⟩]) (.seq (.seq (.reg [⟨(some 3), none, (.mv (.t 0))⟩, ⟨(some 4), none, (.nck (.t 3))⟩, 
  ⟨(some 5), none, (.off 2 (.t 4))⟩, ⟨(some 6), none, (.ld none (.t 5))⟩, ⟨(some 7), none, (.mv (.t 6))⟩, ⟨(some 8), (some (7, true)), (.mv (.t 0))⟩, 
  ⟨(some 9), (some (7, true)), (.nck (.t 8))⟩, ⟨(some 10), (some (7, true)), (.off 3 (.t 9))⟩, ⟨(some 11), (some (7, true)), (.ld none (.t 10))⟩, 
  ⟨(some 12), (some (7, true)), (.eq false .i (.t 11) (.k (.int .i64 0)))⟩, ⟨(some 13), none, (.pick (.t 7) (.t 12) (.k (.bool false)))⟩]) (.cond (.t 13) (.seq 
  (.reg [⟨(some 14), none, (.mv (.t 0))⟩, ⟨(some 15), none, (.mv (.t 0))⟩, ⟨(some 16), none, (.nck (.t 15))⟩, ⟨(some 17), none, (.off 4 (.t 16))⟩, 
  ⟨(some 18), none, (.ld none (.t 17))⟩, ⟨(some 19), none, (.call f_files_Disk_lose [(.t 14), (.t 18)])⟩]) (.seq (.reg [⟨(some 2), none, (.mv (.k (.int .i64 60)))⟩]) .ret)) .skip)) 
  (.seq (.reg [⟨(some 20), none, (.mv (.t 0))⟩, ⟨(some 21), none, (.nck (.t 20))⟩, ⟨(some 22), none, (.off 3 (.t 21))⟩, ⟨(some 23), none, (.ld none (.t 22))⟩, 
  ⟨(some 24), none, (.bin .sub (.t 23) (.k (.int .i64 1)))⟩, ⟨(some 25), none, (.nck (.t 20))⟩, ⟨(some 26), none, (.off 3 (.t 25))⟩, ⟨none, none, (.st none (.t 26) (.t 24))⟩]) (.seq 
  (.reg [⟨(some 27), none, (.mv (.t 0))⟩, ⟨(some 28), none, (.nck (.t 27))⟩, ⟨(some 29), none, (.off 5 (.t 28))⟩, ⟨(some 30), none, (.ld none (.t 29))⟩, 
  ⟨(some 31), none, (.bin .add (.t 30) (.k (.int .i64 1)))⟩, ⟨(some 32), none, (.nck (.t 27))⟩, ⟨(some 33), none, (.off 5 (.t 32))⟩, ⟨none, none, (.st none (.t 33) (.t 31))⟩]) (.seq 
  (.reg [⟨(some 2), none, (.mv (.k (.int .i64 0)))⟩]) .ret)))))⟩
theorem c_files_Disk_spend : compF Tryd.prog ⟨none, none⟩ Tryd.f32 = some r_files_Disk_spend := by kernel_rfl
/-- (*tenancy/files.Disk).lose -/
def r_files_Disk_lose : RF :=
  ⟨55, [], (.seq (.seq (.reg [⟨(some 6), none, (.mv (.t 0))⟩, ⟨(some 7), none, (.nck (.t 6))⟩, ⟨(some 8), none, (.off 0 (.t 7))⟩, ⟨(some 9), none, (.ld none (.t 8))⟩, 
  ⟨(some 10), none, .fail⟩]) (.block 0 (.loop (.seq (.reg [⟨(some 11), none, .fail⟩, ⟨(some 12), none, (.ext 0 (.t 11))⟩]) (.seq (.cond (.t 12) .skip (.exit 0)) (.block 1 (.seq 
  (.reg [⟨(some 13), none, .fail⟩, ⟨(some 14), none, (.ext 1 (.t 13))⟩, ⟨(some 5), none, (.mv (.t 14))⟩]) (.seq (.seq (.reg [⟨(some 15), none, (.mv (.t 1))⟩, 
  ⟨(some 16), none, (.bin .gtr (.t 15) (.k (.int .i64 0)))⟩]) (.cond (.t 16) (.drw 0 [⟨⟨(some 17), none, (.mv (.t 5))⟩, .pure, [], []⟩, 
  ⟨⟨(some 18), none, (.nck (.t 17))⟩, .pure, [], []⟩, ⟨⟨(some 19), none, (.off 1 (.t 18))⟩, .pure, [], []⟩, ⟨⟨(some 20), none, (.ld none (.t 19))⟩, .ld, [], []⟩, 
  ⟨⟨(some 21), none, (.mv (.t 1))⟩, .pure, [3], []⟩, ⟨⟨(some 22), none, (.mv (.t 5))⟩, .pure, [3], []⟩, ⟨⟨(some 23), none, (.nck (.t 22))⟩, .pure, [3], []⟩, 
  ⟨⟨(some 24), none, (.off 0 (.t 23))⟩, .pure, [3], []⟩, ⟨⟨(some 25), none, (.ld none (.t 24))⟩, .ld, [], []⟩, ⟨⟨(some 26), none, (.lens (.t 25))⟩, .pure, [3], []⟩, 
  ⟨⟨(some 27), none, (.mv (.t 5))⟩, .pure, [3, 8], []⟩, ⟨⟨(some 28), none, (.nck (.t 27))⟩, .pure, [3, 8], []⟩, ⟨⟨(some 29), none, (.off 1 (.t 28))⟩, .pure, [3, 8], []⟩, 
  ⟨⟨(some 30), none, (.ld none (.t 29))⟩, .ld, [], []⟩, ⟨⟨(some 31), none, (.bin .sub (.t 26) (.t 30))⟩, .pure, [3], []⟩, 
  ⟨⟨(some 32), none, (.bin .add (.t 31) (.k (.int .i64 1)))⟩, .pure, [3], []⟩, ⟨⟨(some 33), none, (.bin .rem (.t 21) (.t 32))⟩, .pure, [3], []⟩, 
  ⟨⟨(some 34), none, (.bin .add (.t 20) (.t 33))⟩, .pure, [], []⟩, ⟨⟨(some 35), none, (.nck (.t 17))⟩, .pure, [], []⟩, ⟨⟨(some 36), none, (.off 1 (.t 35))⟩, .pure, [], []⟩, 
  ⟨⟨none, none, (.st none (.t 36) (.t 34))⟩, .eff, [], []⟩]) .skip)) (.drw 0 [⟨⟨(some 37), none, (.mv (.t 5))⟩, .pure, [], []⟩, ⟨⟨(some 38), none, (.mv (.t 5))⟩, .pure, [], []⟩, 
  ⟨⟨(some 39), none, (.nck (.t 38))⟩, .pure, [], []⟩, ⟨⟨(some 40), none, (.off 0 (.t 39))⟩, .pure, [], []⟩, ⟨⟨(some 41), none, (.ld none (.t 40))⟩, .ld, [], []⟩, 
  ⟨⟨(some 42), none, (.mv (.t 5))⟩, .pure, [4], []⟩, ⟨⟨(some 43), none, (.nck (.t 42))⟩, .pure, [4], []⟩, ⟨⟨(some 44), none, (.off 1 (.t 43))⟩, .pure, [4], []⟩, 
  ⟨⟨(some 45), none, (.ld none (.t 44))⟩, .ld, [], []⟩, ⟨⟨(some 46), none, (.sls (.t 41) none (some (.t 45)))⟩, .pure, [], []⟩, ⟨⟨(some 47), none, (.nck (.t 37))⟩, .pure, [], []⟩, 
  ⟨⟨(some 48), none, (.off 0 (.t 47))⟩, .pure, [], []⟩, ⟨⟨none, none, (.st none (.t 48) (.t 46))⟩, .eff, [], []⟩]))))))))) (.reg [⟨(some 49), none, (.mv (.t 0))⟩, 
  ⟨(some 50), none, (.mv (.t 0))⟩, ⟨(some 51), none, (.nck (.t 49))⟩, ⟨(some 52), none, (.off 1 (.t 51))⟩, ⟨none, none, (.st none (.t 52) (.k (.bool true)))⟩, 
  ⟨(some 53), none, (.nck (.t 50))⟩, ⟨(some 54), none, (.off 2 (.t 53))⟩, ⟨none, none, (.st none (.t 54) (.k (.bool false)))⟩]))⟩
/-- slices.Sorted[string] -/
def r_slices_Sorted_string : RF :=
  ⟨9, [(.tmp 2)], (.seq (.reg [⟨(some 2), none, (.mv (.k .nils))⟩]) (.seq (.reg [⟨(some 4), none, (.mv (.t 0))⟩, ⟨(some 5), none, (.call f_slices_Collect_string [(.t 4)])⟩, 
  ⟨(some 3), none, (.mv (.t 5))⟩]) (.seq (.reg [⟨(some 6), none, (.mv (.t 3))⟩, ⟨(some 7), none, (.call f_slices_Sort_string [(.t 6)])⟩]) (.seq 
  (.reg [⟨(some 8), none, (.mv (.t 3))⟩, ⟨(some 2), none, (.mv (.t 8))⟩]) .ret))))⟩
theorem c_slices_Sorted_string : compF Tryd.prog ⟨none, none⟩ Tryd.f34 = some r_slices_Sorted_string := by kernel_rfl
/-- maps.Keys[map[string]*tenancy/files.file,string,*tenancy/files.file] -/
def r_maps_Keys_file : RF :=
  ⟨4, [(.tmp 2)], (.seq (.reg [⟨(some 1), none, (.box none (.t 0))⟩, ⟨(some 2), none, (.mv (.k .nilf))⟩]) (.seq (.reg [⟨(some 3), none, (.mkf f_maps_Keys_1_file [(.t 1)])⟩, 
  ⟨(some 2), none, (.mv (.t 3))⟩]) .ret))⟩
theorem c_maps_Keys_file : compF Tryd.prog ⟨none, none⟩ Tryd.f35 = some r_maps_Keys_file := by kernel_rfl
/-- (*tenancy/files.Disk).check -/
def r_files_Disk_check : RF :=
  ⟨23, [(.tmp 4)], (.seq (.reg [⟨(some 4), none, (.mv (.k (.int .i64 0)))⟩]) (.seq (.seq (.reg [⟨(some 7), none, (.mv (.t 0))⟩, ⟨(some 8), none, (.eq false .p (.t 7) (.k .nilp))⟩]) 
  (.cond (.t 8) (.seq (.reg [⟨(some 4), none, (.mv (.k (.int .i64 2)))⟩]) .ret) .skip)) (.seq (.seq (.reg [⟨(some 9), none, (.mv (.t 0))⟩, ⟨(some 10), none, (.nck (.t 9))⟩, 
  ⟨(some 11), none, (.off 1 (.t 10))⟩, ⟨(some 12), none, (.ld none (.t 11))⟩]) (.cond (.t 12) (.seq (.reg [⟨(some 4), none, (.mv (.k (.int .i64 60)))⟩]) .ret) .skip)) (.seq (.seq 
  (.reg [⟨(some 13), none, (.mv (.t 1))⟩, ⟨(some 14), none, (.lenl (.t 13))⟩, ⟨(some 15), none, (.mv (.k (.int .i64 0)))⟩]) (.block 0 (.loop (.seq 
  (.reg [⟨(some 16), none, (.bin .lss (.t 15) (.t 14))⟩]) (.seq (.cond (.t 16) .skip (.exit 0)) (.seq (.block 1 (.seq (.reg [⟨(some 17), none, (.ixa 1 (.t 13) (.t 15))⟩, 
  ⟨(some 18), none, (.ld none (.t 17))⟩, ⟨(some 6), none, (.mv (.t 18))⟩]) (.seq (.reg [⟨(some 19), none, (.mv (.t 6))⟩, ⟨(some 20), none, (.call f_files_isName [(.t 19)])⟩, 
  ⟨(some 21), none, (.un .not (.t 20))⟩]) (.cond (.t 21) (.seq (.reg [⟨(some 4), none, (.mv (.k (.int .i64 61)))⟩]) .ret) .skip)))) 
  (.reg [⟨(some 22), none, (.bin .add (.t 15) (.k (.int .i64 1)))⟩, ⟨(some 15), none, (.mv (.t 22))⟩]))))))) (.seq (.reg [⟨(some 4), none, (.mv (.k (.int .i64 0)))⟩]) .ret)))))⟩
theorem c_files_Disk_check : compF Tryd.prog ⟨none, none⟩ Tryd.f36 = some r_files_Disk_check := by kernel_rfl
/-- (*tenancy/tenancyref06.Disk).Append -/
def r_r06_Disk_Append : RF :=
  ⟨81, [(.tmp 6)], (.seq (.reg [⟨(some 6), none, (.mv (.k (.int .i64 0)))⟩]) (.seq (.seq (.reg [⟨(some 9), none, (.mv (.t 0))⟩, ⟨(some 10), none, (.mv (.t 1))⟩, 
  ⟨(some 11), none, (.call f_r06_Disk_check [(.t 9), (.t 10)])⟩, ⟨(some 7), none, (.mv (.t 11))⟩]) (.seq (.reg [⟨(some 12), none, (.mv (.t 7))⟩, 
  ⟨(some 13), none, (.eq true .i (.t 12) (.k (.int .i64 0)))⟩]) (.cond (.t 13) (.seq (.reg [⟨(some 14), none, (.mv (.t 7))⟩, ⟨(some 6), none, (.mv (.t 14))⟩]) .ret) .skip))) (.seq 
  (.reg [⟨(some 15), none, (.mv (.t 0))⟩, ⟨(some 16), none, (.mv (.t 1))⟩, ⟨(some 17), none, (.call f_r06_Disk_place [(.t 15), (.t 16)])⟩, ⟨(some 8), none, (.mv (.t 17))⟩]) (.seq 
  (.seq (.reg [⟨(some 18), none, (.mv (.t 8))⟩, ⟨(some 19), none, (.bin .lss (.t 18) (.k (.int .i64 0)))⟩, ⟨(some 20), none, (.mv (.t 19))⟩, 
  ⟨(some 21), (some (20, true)), (.mv (.t 0))⟩, ⟨(some 22), (some (20, true)), (.nck (.t 21))⟩, ⟨(some 23), (some (20, true)), (.off 0 (.t 22))⟩, 
  ⟨(some 24), (some (20, true)), (.ld none (.t 23))⟩, ⟨(some 25), (some (20, true)), (.lenl (.t 24))⟩, ⟨(some 26), (some (20, true)), (.bin .geq (.t 25) (.k (.int .i64 16)))⟩, 
  ⟨(some 27), (some (20, true)), (.mv (.t 26))⟩, ⟨(some 28), (some (27, false)), (.mv (.t 2))⟩, ⟨(some 29), (some (27, false)), (.lens (.t 28))⟩, 
  ⟨(some 30), (some (27, false)), (.bin .gtr (.t 29) (.k (.int .i64 1048576)))⟩, ⟨(some 31), (some (20, true)), (.pick (.t 27) (.k (.bool true)) (.t 30))⟩, 
  ⟨(some 32), none, (.pick (.t 20) (.t 31) (.k (.bool false)))⟩, ⟨(some 33), none, (.mv (.t 32))⟩, ⟨(some 34), (some (33, false)), (.mv (.t 8))⟩, 
  ⟨(some 35), (some (33, false)), (.bin .geq (.t 34) (.k (.int .i64 0)))⟩, ⟨(some 36), (some (33, false)), (.mv (.t 35))⟩, ⟨(some 37), (some (36, true)), (.mv (.t 2))⟩, 
  ⟨(some 38), (some (36, true)), (.lens (.t 37))⟩, ⟨(some 39), (some (36, true)), (.mv (.t 0))⟩, ⟨(some 40), (some (36, true)), (.nck (.t 39))⟩, 
  ⟨(some 41), (some (36, true)), (.off 0 (.t 40))⟩, ⟨(some 42), (some (36, true)), (.ld none (.t 41))⟩, ⟨(some 43), (some (36, true)), (.mv (.t 8))⟩, 
  ⟨(some 44), (some (36, true)), (.ixa 3 (.t 42) (.t 43))⟩, ⟨(some 45), (some (36, true)), (.off 1 (.t 44))⟩, ⟨(some 46), (some (36, true)), (.ld none (.t 45))⟩, 
  ⟨(some 47), (some (36, true)), (.lens (.t 46))⟩, ⟨(some 48), (some (36, true)), (.bin .sub (.k (.int .i64 1048576)) (.t 47))⟩, 
  ⟨(some 49), (some (36, true)), (.bin .gtr (.t 38) (.t 48))⟩, ⟨(some 50), (some (33, false)), (.pick (.t 36) (.t 49) (.k (.bool false)))⟩, 
  ⟨(some 51), none, (.pick (.t 33) (.k (.bool true)) (.t 50))⟩]) (.cond (.t 51) (.seq (.reg [⟨(some 6), none, (.mv (.k (.int .i64 63)))⟩]) .ret) .skip)) (.seq (.seq 
  (.reg [⟨(some 52), none, (.mv (.t 8))⟩, ⟨(some 53), none, (.bin .lss (.t 52) (.k (.int .i64 0)))⟩]) (.cond (.t 53) (.seq (.reg [⟨(some 54), none, (.mv (.t 0))⟩, 
  ⟨(some 55), none, (.mv (.t 1))⟩, ⟨(some 56), none, (.bld [(.str (bts [])), (.str (bts [])), (.int .i64 0)] [(0, (1, (.t 55)))])⟩, 
  ⟨(some 57), none, (.call f_r06_Disk_put [(.t 54), (.t 56)])⟩]) (.reg [⟨(some 58), none, (.mv (.t 0))⟩, ⟨(some 59), none, (.mv (.t 1))⟩, 
  ⟨(some 60), none, (.call f_r06_Disk_place [(.t 58), (.t 59)])⟩, ⟨(some 8), none, (.mv (.t 60))⟩])) .skip)) (.seq (.drw 0 [⟨⟨(some 61), none, (.mv (.t 0))⟩, .pure, [], []⟩, 
  ⟨⟨(some 62), none, (.nck (.t 61))⟩, .pure, [], []⟩, ⟨⟨(some 63), none, (.off 0 (.t 62))⟩, .pure, [], []⟩, ⟨⟨(some 64), none, (.ld none (.t 63))⟩, .ld, [], []⟩, 
  ⟨⟨(some 65), none, (.mv (.t 8))⟩, .pure, [3], []⟩, ⟨⟨(some 66), none, (.mv (.t 0))⟩, .pure, [3], []⟩, ⟨⟨(some 67), none, (.nck (.t 66))⟩, .pure, [3], []⟩, 
  ⟨⟨(some 68), none, (.off 0 (.t 67))⟩, .pure, [3], []⟩, ⟨⟨(some 69), none, (.ld none (.t 68))⟩, .ld, [], []⟩, ⟨⟨(some 70), none, (.mv (.t 8))⟩, .pure, [3, 8], []⟩, 
  ⟨⟨(some 71), none, (.ixa 3 (.t 69) (.t 70))⟩, .pure, [3], []⟩, ⟨⟨(some 72), none, (.off 1 (.t 71))⟩, .pure, [3], []⟩, ⟨⟨(some 73), none, (.ld none (.t 72))⟩, .ld, [], []⟩, 
  ⟨⟨(some 74), none, (.mv (.t 2))⟩, .pure, [3, 8, 12], []⟩, ⟨⟨(some 75), none, (.bin .add (.t 73) (.t 74))⟩, .pure, [3], []⟩, 
  ⟨⟨(some 76), none, (.ixa 3 (.t 64) (.t 65))⟩, .pure, [], []⟩, ⟨⟨(some 77), none, (.off 1 (.t 76))⟩, .pure, [], []⟩, ⟨⟨none, none, (.st none (.t 77) (.t 75))⟩, .eff, [], []⟩]) 
  (.seq (.seq (.reg [⟨(some 78), none, (.mv (.t 0))⟩, ⟨(some 79), none, (.call f_r06_Disk_power [(.t 78)])⟩, ⟨(some 80), none, (.un .not (.t 79))⟩]) (.cond (.t 80) (.seq 
  (.reg [⟨(some 6), none, (.mv (.k (.int .i64 60)))⟩]) .ret) .skip)) (.seq (.reg [⟨(some 6), none, (.mv (.k (.int .i64 0)))⟩]) .ret))))))))⟩
theorem c_r06_Disk_Append : compF Tryd.prog ⟨none, none⟩ Tryd.f37 = some r_r06_Disk_Append := by kernel_rfl
/-- (*tenancy/tenancyref06.Disk).Sync -/
def r_r06_Disk_Sync : RF :=
  ⟨37, [(.tmp 4)], (.seq (.reg [⟨(some 4), none, (.mv (.k (.int .i64 0)))⟩]) (.seq (.seq (.reg [⟨(some 7), none, (.mv (.t 0))⟩, ⟨(some 8), none, (.mv (.t 1))⟩, 
  ⟨(some 9), none, (.call f_r06_Disk_check [(.t 7), (.t 8)])⟩, ⟨(some 5), none, (.mv (.t 9))⟩]) (.seq (.reg [⟨(some 10), none, (.mv (.t 5))⟩, 
  ⟨(some 11), none, (.eq true .i (.t 10) (.k (.int .i64 0)))⟩]) (.cond (.t 11) (.seq (.reg [⟨(some 12), none, (.mv (.t 5))⟩, ⟨(some 4), none, (.mv (.t 12))⟩]) .ret) .skip))) (.seq 
  (.reg [⟨(some 13), none, (.mv (.t 0))⟩, ⟨(some 14), none, (.mv (.t 1))⟩, ⟨(some 15), none, (.call f_r06_Disk_place [(.t 13), (.t 14)])⟩, ⟨(some 6), none, (.mv (.t 15))⟩]) (.seq 
  (.seq (.reg [⟨(some 16), none, (.mv (.t 6))⟩, ⟨(some 17), none, (.bin .lss (.t 16) (.k (.int .i64 0)))⟩]) (.cond (.t 17) (.seq 
  (.reg [⟨(some 4), none, (.mv (.k (.int .i64 62)))⟩]) .ret) .skip)) (.seq (.seq (.reg [⟨(some 18), none, (.mv (.t 0))⟩, ⟨(some 19), none, (.call f_r06_Disk_power [(.t 18)])⟩, 
  ⟨(some 20), none, (.un .not (.t 19))⟩]) (.cond (.t 20) (.seq (.reg [⟨(some 4), none, (.mv (.k (.int .i64 60)))⟩]) .ret) .skip)) (.seq 
  (.drw 0 [⟨⟨(some 21), none, (.mv (.t 0))⟩, .pure, [], []⟩, ⟨⟨(some 22), none, (.nck (.t 21))⟩, .pure, [], []⟩, ⟨⟨(some 23), none, (.off 0 (.t 22))⟩, .pure, [], []⟩, 
  ⟨⟨(some 24), none, (.ld none (.t 23))⟩, .ld, [], []⟩, ⟨⟨(some 25), none, (.mv (.t 6))⟩, .pure, [3], []⟩, ⟨⟨(some 26), none, (.mv (.t 0))⟩, .pure, [3], []⟩, 
  ⟨⟨(some 27), none, (.nck (.t 26))⟩, .pure, [3], []⟩, ⟨⟨(some 28), none, (.off 0 (.t 27))⟩, .pure, [3], []⟩, ⟨⟨(some 29), none, (.ld none (.t 28))⟩, .ld, [], []⟩, 
  ⟨⟨(some 30), none, (.mv (.t 6))⟩, .pure, [3, 8], []⟩, ⟨⟨(some 31), none, (.ixa 3 (.t 29) (.t 30))⟩, .pure, [3], []⟩, ⟨⟨(some 32), none, (.off 1 (.t 31))⟩, .pure, [3], []⟩, 
  ⟨⟨(some 33), none, (.ld none (.t 32))⟩, .ld, [], []⟩, ⟨⟨(some 34), none, (.lens (.t 33))⟩, .pure, [3], []⟩, ⟨⟨(some 35), none, (.ixa 3 (.t 24) (.t 25))⟩, .pure, [], []⟩, 
  ⟨⟨(some 36), none, (.off 2 (.t 35))⟩, .pure, [], []⟩, ⟨⟨none, none, (.st none (.t 36) (.t 34))⟩, .eff, [], []⟩]) (.seq 
  (.reg [⟨(some 4), none, (.mv (.k (.int .i64 0)))⟩]) .ret)))))))⟩
theorem c_r06_Disk_Sync : compF Tryd.prog ⟨none, none⟩ Tryd.f38 = some r_r06_Disk_Sync := by kernel_rfl
/-- (*tenancy/files.Disk).Cut -/
def r_files_Disk_Cut : RF :=
  ⟨50, [(.tmp 6)], (.seq (.reg [⟨(some 6), none, (.mv (.k (.int .i64 0)))⟩]) (.seq (.reg [⟨(some 11), none, (.mv (.t 0))⟩, ⟨(some 12), none, (.mv (.t 1))⟩, 
  ⟨(some 13), none, (.call f_files_Disk_find [(.t 11), (.t 12)])⟩, ⟨(some 10), none, (.mv (.t 13))⟩, ⟨(some 14), none, (.ext 0 (.t 10))⟩, ⟨(some 15), none, (.ext 1 (.t 10))⟩, 
  ⟨(some 7), none, (.mv (.t 14))⟩, ⟨(some 8), none, (.mv (.t 15))⟩]) (.seq (.block 0 (.seq (.reg [⟨(some 17), none, (.mv (.t 8))⟩, 
  ⟨(some 18), none, (.eq true .i (.t 17) (.k (.int .i64 0)))⟩, ⟨(some 16), none, (.mv (.t 18))⟩]) (.cond (.t 16) (.seq (.reg [⟨(some 19), none, (.mv (.t 8))⟩, 
  ⟨(some 6), none, (.mv (.t 19))⟩]) .ret) (.seq (.reg [⟨(some 21), none, (.mv (.t 2))⟩, ⟨(some 22), none, (.bin .lss (.t 21) (.k (.int .i64 0)))⟩, ⟨(some 23), none, (.mv (.t 22))⟩, 
  ⟨(some 24), (some (23, false)), (.mv (.t 2))⟩, ⟨(some 25), (some (23, false)), (.mv (.t 7))⟩, ⟨(some 26), (some (23, false)), (.nck (.t 25))⟩, 
  ⟨(some 27), (some (23, false)), (.off 0 (.t 26))⟩, ⟨(some 28), (some (23, false)), (.ld none (.t 27))⟩, ⟨(some 29), (some (23, false)), (.lens (.t 28))⟩, 
  ⟨(some 30), (some (23, false)), (.bin .gtr (.t 24) (.t 29))⟩, ⟨(some 31), none, (.pick (.t 23) (.k (.bool true)) (.t 30))⟩, ⟨(some 20), none, (.mv (.t 31))⟩]) (.cond (.t 20) (.seq 
  (.reg [⟨(some 6), none, (.mv (.k (.int .i64 1)))⟩]) .ret) .skip))))) (.seq (.seq (.reg [⟨(some 32), none, (.mv (.t 0))⟩, ⟨(some 33), none, (.call f_files_Disk_spend [(.t 32)])⟩, 
  ⟨(some 9), none, (.mv (.t 33))⟩]) (.seq (.reg [⟨(some 34), none, (.mv (.t 9))⟩, ⟨(some 35), none, (.eq true .i (.t 34) (.k (.int .i64 0)))⟩]) (.cond (.t 35) (.seq 
  (.reg [⟨(some 36), none, (.mv (.t 9))⟩, ⟨(some 6), none, (.mv (.t 36))⟩]) .ret) .skip))) (.seq (.reg [⟨(some 37), none, (.mv (.t 7))⟩, ⟨(some 38), none, (.mv (.t 7))⟩, 
  ⟨(some 39), none, (.mv (.t 7))⟩, ⟨(some 40), none, (.nck (.t 39))⟩, ⟨(some 41), none, (.off 0 (.t 40))⟩, ⟨(some 42), none, (.ld none (.t 41))⟩, ⟨(some 43), none, (.mv (.t 2))⟩, 
  ⟨(some 44), none, (.sls (.t 42) none (some (.t 43)))⟩, ⟨(some 45), none, (.mv (.t 2))⟩, ⟨(some 46), none, (.nck (.t 37))⟩, ⟨(some 47), none, (.off 0 (.t 46))⟩, 
  ⟨none, none, (.st none (.t 47) (.t 44))⟩, ⟨(some 48), none, (.nck (.t 38))⟩, ⟨(some 49), none, (.off 1 (.t 48))⟩, ⟨none, none, (.st none (.t 49) (.t 45))⟩]) (.seq 
  (.reg [⟨(some 6), none, (.mv (.k (.int .i64 0)))⟩]) .ret))))))⟩
theorem c_files_Disk_Cut : compF Tryd.prog ⟨none, none⟩ Tryd.f39 = some r_files_Disk_Cut := by kernel_rfl
/-- (*tenancy/tenancyref06.Disk).Cut -/
def r_r06_Disk_Cut : RF :=
  ⟨63, [(.tmp 6)], (.seq (.reg [⟨(some 6), none, (.mv (.k (.int .i64 0)))⟩]) (.seq (.seq (.reg [⟨(some 9), none, (.mv (.t 0))⟩, ⟨(some 10), none, (.mv (.t 1))⟩, 
  ⟨(some 11), none, (.call f_r06_Disk_check [(.t 9), (.t 10)])⟩, ⟨(some 7), none, (.mv (.t 11))⟩]) (.seq (.reg [⟨(some 12), none, (.mv (.t 7))⟩, 
  ⟨(some 13), none, (.eq true .i (.t 12) (.k (.int .i64 0)))⟩]) (.cond (.t 13) (.seq (.reg [⟨(some 14), none, (.mv (.t 7))⟩, ⟨(some 6), none, (.mv (.t 14))⟩]) .ret) .skip))) (.seq 
  (.reg [⟨(some 15), none, (.mv (.t 0))⟩, ⟨(some 16), none, (.mv (.t 1))⟩, ⟨(some 17), none, (.call f_r06_Disk_place [(.t 15), (.t 16)])⟩, ⟨(some 8), none, (.mv (.t 17))⟩]) (.seq 
  (.seq (.reg [⟨(some 18), none, (.mv (.t 8))⟩, ⟨(some 19), none, (.bin .lss (.t 18) (.k (.int .i64 0)))⟩]) (.cond (.t 19) (.seq 
  (.reg [⟨(some 6), none, (.mv (.k (.int .i64 62)))⟩]) .ret) .skip)) (.seq (.seq (.reg [⟨(some 20), none, (.mv (.t 2))⟩, ⟨(some 21), none, (.bin .lss (.t 20) (.k (.int .i64 0)))⟩, 
  ⟨(some 22), none, (.mv (.t 21))⟩, ⟨(some 23), (some (22, false)), (.mv (.t 2))⟩, ⟨(some 24), (some (22, false)), (.mv (.t 0))⟩, ⟨(some 25), (some (22, false)), (.nck (.t 24))⟩, 
  ⟨(some 26), (some (22, false)), (.off 0 (.t 25))⟩, ⟨(some 27), (some (22, false)), (.ld none (.t 26))⟩, ⟨(some 28), (some (22, false)), (.mv (.t 8))⟩, 
  ⟨(some 29), (some (22, false)), (.ixa 3 (.t 27) (.t 28))⟩, ⟨(some 30), (some (22, false)), (.off 1 (.t 29))⟩, ⟨(some 31), (some (22, false)), (.ld none (.t 30))⟩, 
  ⟨(some 32), (some (22, false)), (.lens (.t 31))⟩, ⟨(some 33), (some (22, false)), (.bin .gtr (.t 23) (.t 32))⟩, ⟨(some 34), none, (.pick (.t 22) (.k (.bool true)) (.t 33))⟩]) 
  (.cond (.t 34) (.seq (.reg [⟨(some 6), none, (.mv (.k (.int .i64 1)))⟩]) .ret) .skip)) (.seq (.seq (.reg [⟨(some 35), none, (.mv (.t 0))⟩, 
  ⟨(some 36), none, (.call f_r06_Disk_power [(.t 35)])⟩, ⟨(some 37), none, (.un .not (.t 36))⟩]) (.cond (.t 37) (.seq 
  (.reg [⟨(some 6), none, (.mv (.k (.int .i64 60)))⟩]) .ret) .skip)) (.seq (.drw 0 [⟨⟨(some 38), none, (.mv (.t 0))⟩, .pure, [], []⟩, 
  ⟨⟨(some 39), none, (.nck (.t 38))⟩, .pure, [], []⟩, ⟨⟨(some 40), none, (.off 0 (.t 39))⟩, .pure, [], []⟩, ⟨⟨(some 41), none, (.ld none (.t 40))⟩, .ld, [], []⟩, 
  ⟨⟨(some 42), none, (.mv (.t 8))⟩, .pure, [3], []⟩, ⟨⟨(some 43), none, (.mv (.t 0))⟩, .pure, [3], []⟩, ⟨⟨(some 44), none, (.nck (.t 43))⟩, .pure, [3], []⟩, 
  ⟨⟨(some 45), none, (.off 0 (.t 44))⟩, .pure, [3], []⟩, ⟨⟨(some 46), none, (.ld none (.t 45))⟩, .ld, [], []⟩, ⟨⟨(some 47), none, (.mv (.t 8))⟩, .pure, [3, 8], []⟩, 
  ⟨⟨(some 48), none, (.ixa 3 (.t 46) (.t 47))⟩, .pure, [3], []⟩, ⟨⟨(some 49), none, (.off 1 (.t 48))⟩, .pure, [3], []⟩, ⟨⟨(some 50), none, (.ld none (.t 49))⟩, .ld, [], []⟩, 
  ⟨⟨(some 51), none, (.mv (.t 2))⟩, .pure, [3, 8, 12], []⟩, ⟨⟨(some 52), none, (.sls (.t 50) none (some (.t 51)))⟩, .pure, [3], []⟩, 
  ⟨⟨(some 53), none, (.ixa 3 (.t 41) (.t 42))⟩, .pure, [], []⟩, ⟨⟨(some 54), none, (.off 1 (.t 53))⟩, .pure, [], []⟩, ⟨⟨none, none, (.st none (.t 54) (.t 52))⟩, .eff, [], []⟩]) 
  (.seq (.reg [⟨(some 55), none, (.mv (.t 0))⟩, ⟨(some 56), none, (.nck (.t 55))⟩, ⟨(some 57), none, (.off 0 (.t 56))⟩, ⟨(some 58), none, (.ld none (.t 57))⟩, 
  ⟨(some 59), none, (.mv (.t 8))⟩, ⟨(some 60), none, (.mv (.t 2))⟩, ⟨(some 61), none, (.ixa 3 (.t 58) (.t 59))⟩, ⟨(some 62), none, (.off 2 (.t 61))⟩, 
  ⟨none, none, (.st none (.t 62) (.t 60))⟩]) (.seq (.reg [⟨(some 6), none, (.mv (.k (.int .i64 0)))⟩]) .ret)))))))))⟩
theorem c_r06_Disk_Cut : compF Tryd.prog ⟨none, none⟩ Tryd.f40 = some r_r06_Disk_Cut := by kernel_rfl
/-- (*tenancy/tenancyref06.Disk).Rename -/
def r_r06_Disk_Rename : RF :=
  ⟨51, [(.tmp 6)], (.seq (.reg [⟨(some 6), none, (.mv (.k (.int .i64 0)))⟩]) (.seq (.seq (.reg [⟨(some 12), none, (.mv (.t 0))⟩, ⟨(some 13), none, (.mv (.t 1))⟩, 
  ⟨(some 14), none, (.call f_r06_Disk_check [(.t 12), (.t 13)])⟩, ⟨(some 7), none, (.mv (.t 14))⟩]) (.seq (.reg [⟨(some 15), none, (.mv (.t 7))⟩, 
  ⟨(some 16), none, (.eq true .i (.t 15) (.k (.int .i64 0)))⟩]) (.cond (.t 16) (.seq (.reg [⟨(some 17), none, (.mv (.t 7))⟩, ⟨(some 6), none, (.mv (.t 17))⟩]) .ret) .skip))) (.seq 
  (.seq (.reg [⟨(some 18), none, (.mv (.t 0))⟩, ⟨(some 19), none, (.mv (.t 2))⟩, ⟨(some 20), none, (.call f_r06_Disk_check [(.t 18), (.t 19)])⟩, ⟨(some 8), none, (.mv (.t 20))⟩]) 
  (.seq (.reg [⟨(some 21), none, (.mv (.t 8))⟩, ⟨(some 22), none, (.eq true .i (.t 21) (.k (.int .i64 0)))⟩]) (.cond (.t 22) (.seq (.reg [⟨(some 23), none, (.mv (.t 8))⟩, 
  ⟨(some 6), none, (.mv (.t 23))⟩]) .ret) .skip))) (.seq (.reg [⟨(some 24), none, (.mv (.t 0))⟩, ⟨(some 25), none, (.mv (.t 1))⟩, 
  ⟨(some 26), none, (.call f_r06_Disk_place [(.t 24), (.t 25)])⟩, ⟨(some 9), none, (.mv (.t 26))⟩]) (.seq (.seq (.reg [⟨(some 27), none, (.mv (.t 9))⟩, 
  ⟨(some 28), none, (.bin .lss (.t 27) (.k (.int .i64 0)))⟩]) (.cond (.t 28) (.seq (.reg [⟨(some 6), none, (.mv (.k (.int .i64 62)))⟩]) .ret) .skip)) (.seq (.seq 
  (.reg [⟨(some 29), none, (.mv (.t 0))⟩, ⟨(some 30), none, (.call f_r06_Disk_power [(.t 29)])⟩, ⟨(some 31), none, (.un .not (.t 30))⟩]) (.cond (.t 31) (.seq 
  (.reg [⟨(some 6), none, (.mv (.k (.int .i64 60)))⟩]) .ret) .skip)) (.seq (.seq (.reg [⟨(some 32), none, (.mv (.t 1))⟩, ⟨(some 33), none, (.mv (.t 2))⟩, 
  ⟨(some 34), none, (.eq false .s (.t 32) (.t 33))⟩]) (.cond (.t 34) (.seq (.reg [⟨(some 6), none, (.mv (.k (.int .i64 0)))⟩]) .ret) .skip)) (.seq 
  (.reg [⟨(some 35), none, (.mv (.t 0))⟩, ⟨(some 36), none, (.mv (.t 9))⟩, ⟨(some 37), none, (.call f_r06_Disk_take [(.t 35), (.t 36)])⟩, 
  ⟨(some 10), none, (.new [(.str (bts [])), (.str (bts [])), (.int .i64 0)])⟩, ⟨none, none, (.st (some 3) (.t 10) (.t 37))⟩]) (.seq (.reg [⟨(some 38), none, (.mv (.t 0))⟩, 
  ⟨(some 39), none, (.mv (.t 2))⟩, ⟨(some 40), none, (.call f_r06_Disk_place [(.t 38), (.t 39)])⟩, ⟨(some 11), none, (.mv (.t 40))⟩]) (.seq (.seq 
  (.reg [⟨(some 41), none, (.mv (.t 11))⟩, ⟨(some 42), none, (.bin .geq (.t 41) (.k (.int .i64 0)))⟩]) (.cond (.t 42) (.reg [⟨(some 43), none, (.mv (.t 0))⟩, 
  ⟨(some 44), none, (.mv (.t 11))⟩, ⟨(some 45), none, (.call f_r06_Disk_take [(.t 43), (.t 44)])⟩]) .skip)) (.seq (.reg [⟨(some 46), none, (.mv (.t 2))⟩, 
  ⟨(some 47), none, (.off 0 (.t 10))⟩, ⟨none, none, (.st none (.t 47) (.t 46))⟩]) (.seq (.reg [⟨(some 48), none, (.mv (.t 0))⟩, ⟨(some 49), none, (.ld (some 3) (.t 10))⟩, 
  ⟨(some 50), none, (.call f_r06_Disk_put [(.t 48), (.t 49)])⟩]) (.seq (.reg [⟨(some 6), none, (.mv (.k (.int .i64 0)))⟩]) .ret)))))))))))))⟩
theorem c_r06_Disk_Rename : compF Tryd.prog ⟨none, none⟩ Tryd.f41 = some r_r06_Disk_Rename := by kernel_rfl
/-- (*tenancy/tenancyref06.Disk).Delete -/
def r_r06_Disk_Delete : RF :=
  ⟨24, [(.tmp 4)], (.seq (.reg [⟨(some 4), none, (.mv (.k (.int .i64 0)))⟩]) (.seq (.seq (.reg [⟨(some 7), none, (.mv (.t 0))⟩, ⟨(some 8), none, (.mv (.t 1))⟩, 
  ⟨(some 9), none, (.call f_r06_Disk_check [(.t 7), (.t 8)])⟩, ⟨(some 5), none, (.mv (.t 9))⟩]) (.seq (.reg [⟨(some 10), none, (.mv (.t 5))⟩, 
  ⟨(some 11), none, (.eq true .i (.t 10) (.k (.int .i64 0)))⟩]) (.cond (.t 11) (.seq (.reg [⟨(some 12), none, (.mv (.t 5))⟩, ⟨(some 4), none, (.mv (.t 12))⟩]) .ret) .skip))) (.seq 
  (.reg [⟨(some 13), none, (.mv (.t 0))⟩, ⟨(some 14), none, (.mv (.t 1))⟩, ⟨(some 15), none, (.call f_r06_Disk_place [(.t 13), (.t 14)])⟩, ⟨(some 6), none, (.mv (.t 15))⟩]) (.seq 
  (.seq (.reg [⟨(some 16), none, (.mv (.t 6))⟩, ⟨(some 17), none, (.bin .lss (.t 16) (.k (.int .i64 0)))⟩]) (.cond (.t 17) (.seq 
  (.reg [⟨(some 4), none, (.mv (.k (.int .i64 62)))⟩]) .ret) .skip)) (.seq (.seq (.reg [⟨(some 18), none, (.mv (.t 0))⟩, ⟨(some 19), none, (.call f_r06_Disk_power [(.t 18)])⟩, 
  ⟨(some 20), none, (.un .not (.t 19))⟩]) (.cond (.t 20) (.seq (.reg [⟨(some 4), none, (.mv (.k (.int .i64 60)))⟩]) .ret) .skip)) (.seq (.reg [⟨(some 21), none, (.mv (.t 0))⟩, 
  ⟨(some 22), none, (.mv (.t 6))⟩, ⟨(some 23), none, (.call f_r06_Disk_take [(.t 21), (.t 22)])⟩]) (.seq (.reg [⟨(some 4), none, (.mv (.k (.int .i64 0)))⟩]) .ret)))))))⟩
theorem c_r06_Disk_Delete : compF Tryd.prog ⟨none, none⟩ Tryd.f42 = some r_r06_Disk_Delete := by kernel_rfl
/-- (*tenancy/tenancyref06.Disk).Arm -/
def r_r06_Disk_Arm : RF :=
  ⟨27, [], (.seq (.seq (.reg [⟨(some 6), none, (.mv (.t 0))⟩, ⟨(some 7), none, (.eq false .p (.t 6) (.k .nilp))⟩, ⟨(some 8), none, (.mv (.t 7))⟩, 
  ⟨(some 9), (some (8, false)), (.mv (.t 0))⟩, ⟨(some 10), (some (8, false)), (.nck (.t 9))⟩, ⟨(some 11), (some (8, false)), (.off 1 (.t 10))⟩, 
  ⟨(some 12), (some (8, false)), (.ld none (.t 11))⟩, ⟨(some 13), none, (.pick (.t 8) (.k (.bool true)) (.t 12))⟩]) (.cond (.t 13) .ret .skip)) (.seq 
  (.reg [⟨(some 14), none, (.mv (.t 0))⟩, ⟨(some 15), none, (.mv (.t 1))⟩, ⟨(some 16), none, (.nck (.t 14))⟩, ⟨(some 17), none, (.off 2 (.t 16))⟩, 
  ⟨none, none, (.st none (.t 17) (.t 15))⟩]) (.seq (.seq (.reg [⟨(some 18), none, (.mv (.t 1))⟩, ⟨(some 19), none, (.bin .lss (.t 18) (.k (.int .i64 0)))⟩]) (.cond (.t 19) 
  (.reg [⟨(some 20), none, (.mv (.t 0))⟩, ⟨(some 21), none, (.nck (.t 20))⟩, ⟨(some 22), none, (.off 2 (.t 21))⟩, ⟨none, none, (.st none (.t 22) (.k (.int .i64 (-1))))⟩]) .skip)) 
  (.reg [⟨(some 23), none, (.mv (.t 0))⟩, ⟨(some 24), none, (.mv (.t 2))⟩, ⟨(some 25), none, (.nck (.t 23))⟩, ⟨(some 26), none, (.off 3 (.t 25))⟩, 
  ⟨none, none, (.st none (.t 26) (.t 24))⟩]))))⟩
theorem c_r06_Disk_Arm : compF Tryd.prog ⟨none, none⟩ Tryd.f43 = some r_r06_Disk_Arm := by kernel_rfl
/-- (*tenancy/tenancyref06.Disk).Off -/
def r_r06_Disk_Off : RF :=
  ⟨16, [], (.seq (.reg [⟨(some 4), none, (.mv (.t 0))⟩, ⟨(some 5), none, (.eq true .p (.t 4) (.k .nilp))⟩, ⟨(some 6), none, (.mv (.t 5))⟩, 
  ⟨(some 7), (some (6, true)), (.mv (.t 0))⟩, ⟨(some 8), (some (6, true)), (.nck (.t 7))⟩, ⟨(some 9), (some (6, true)), (.off 1 (.t 8))⟩, 
  ⟨(some 10), (some (6, true)), (.ld none (.t 9))⟩, ⟨(some 11), (some (6, true)), (.un .not (.t 10))⟩, ⟨(some 12), none, (.pick (.t 6) (.t 11) (.k (.bool false)))⟩]) (.cond (.t 12) 
  (.reg [⟨(some 13), none, (.mv (.t 0))⟩, ⟨(some 14), none, (.mv (.t 1))⟩, ⟨(some 15), none, (.call f_r06_Disk_goes [(.t 13), (.t 14)])⟩]) .skip))⟩
theorem c_r06_Disk_Off : compF Tryd.prog ⟨none, none⟩ Tryd.f44 = some r_r06_Disk_Off := by kernel_rfl
/-- (*tenancy/tenancyref06.Disk).place -/
def r_r06_Disk_place : RF :=
  ⟨26, [(.tmp 4)], (.seq (.reg [⟨(some 4), none, (.mv (.k (.int .i64 0)))⟩]) (.seq (.seq (.reg [⟨(some 5), none, (.mv (.k (.int .i64 0)))⟩]) (.block 0 (.loop (.seq (.seq 
  (.reg [⟨(some 6), none, (.mv (.t 5))⟩, ⟨(some 7), none, (.mv (.t 0))⟩, ⟨(some 8), none, (.nck (.t 7))⟩, ⟨(some 9), none, (.off 0 (.t 8))⟩, ⟨(some 10), none, (.ld none (.t 9))⟩, 
  ⟨(some 11), none, (.lenl (.t 10))⟩, ⟨(some 12), none, (.bin .lss (.t 6) (.t 11))⟩]) (.cond (.t 12) .skip (.exit 0))) (.seq (.block 1 (.seq (.reg [⟨(some 15), none, (.mv (.t 0))⟩, 
  ⟨(some 16), none, (.nck (.t 15))⟩, ⟨(some 17), none, (.off 0 (.t 16))⟩, ⟨(some 18), none, (.ld none (.t 17))⟩, ⟨(some 19), none, (.mv (.t 5))⟩, 
  ⟨(some 20), none, (.ixa 3 (.t 18) (.t 19))⟩, ⟨(some 21), none, (.off 0 (.t 20))⟩, ⟨(some 22), none, (.ld none (.t 21))⟩, ⟨(some 23), none, (.mv (.t 1))⟩, 
  ⟨(some 24), none, (.eq false .s (.t 22) (.t 23))⟩]) (.cond (.t 24) (.seq (.reg [⟨(some 25), none, (.mv (.t 5))⟩, ⟨(some 4), none, (.mv (.t 25))⟩]) .ret) .skip))) 
  (.reg [⟨(some 13), none, (.mv (.t 5))⟩, ⟨(some 14), none, (.bin .add (.t 13) (.k (.int .i64 1)))⟩, ⟨(some 5), none, (.mv (.t 14))⟩])))))) (.seq 
  (.reg [⟨(some 4), none, (.mv (.k (.int .i64 (-1))))⟩]) .ret)))⟩
theorem c_r06_Disk_place : compF Tryd.prog ⟨none, none⟩ Tryd.f45 = some r_r06_Disk_place := by kernel_rfl
/-- (*tenancy/tenancyref06.Disk).check -/
def r_r06_Disk_check : RF :=
  ⟨14, [(.tmp 4)], (.seq (.reg [⟨(some 4), none, (.mv (.k (.int .i64 0)))⟩]) (.seq (.seq (.reg [⟨(some 5), none, (.mv (.t 0))⟩, ⟨(some 6), none, (.eq false .p (.t 5) (.k .nilp))⟩]) 
  (.cond (.t 6) (.seq (.reg [⟨(some 4), none, (.mv (.k (.int .i64 2)))⟩]) .ret) .skip)) (.seq (.seq (.reg [⟨(some 7), none, (.mv (.t 0))⟩, ⟨(some 8), none, (.nck (.t 7))⟩, 
  ⟨(some 9), none, (.off 1 (.t 8))⟩, ⟨(some 10), none, (.ld none (.t 9))⟩]) (.cond (.t 10) (.seq (.reg [⟨(some 4), none, (.mv (.k (.int .i64 60)))⟩]) .ret) .skip)) (.seq (.seq 
  (.reg [⟨(some 11), none, (.mv (.t 1))⟩, ⟨(some 12), none, (.call f_r06_Name [(.t 11)])⟩, ⟨(some 13), none, (.un .not (.t 12))⟩]) (.cond (.t 13) (.seq 
  (.reg [⟨(some 4), none, (.mv (.k (.int .i64 61)))⟩]) .ret) .skip)) (.seq (.reg [⟨(some 4), none, (.mv (.k (.int .i64 0)))⟩]) .ret)))))⟩
theorem c_r06_Disk_check : compF Tryd.prog ⟨none, none⟩ Tryd.f46 = some r_r06_Disk_check := by kernel_rfl
/-- slices.Collect[string] -/
def r_slices_Collect_string : RF :=
  ⟨5, [(.tmp 2)], (.seq (.reg [⟨(some 2), none, (.mv (.k .nils))⟩]) (.seq (.reg [⟨(some 3), none, (.mv (.t 0))⟩, 
  ⟨(some 4), none, (.call f_slices_AppendSeq_string [(.k .nils), (.t 3)])⟩, ⟨(some 2), none, (.mv (.t 4))⟩]) .ret))⟩
theorem c_slices_Collect_string : compF Tryd.prog ⟨none, none⟩ Tryd.f47 = some r_slices_Collect_string := by kernel_rfl
/-- slices.Sort[[]string,string] -/
def r_slices_Sort_string : RF :=
  ⟨11, [], (.seq (.reg [⟨(some 3), none, (.mv (.t 0))⟩, ⟨(some 4), none, (.lenl (.t 3))⟩, ⟨(some 2), none, (.mv (.t 4))⟩]) (.reg [⟨(some 5), none, (.mv (.t 0))⟩, 
  ⟨(some 6), none, (.mv (.t 2))⟩, ⟨(some 7), none, (.mv (.t 2))⟩, ⟨(some 8), none, (.cvi .u64 (.t 7))⟩, ⟨(some 9), none, (.call f_bits_Len [(.t 8)])⟩, 
  ⟨(some 10), none, (.call f_slices_pdqsortOrdered_string [(.t 5), (.k (.int .i64 0)), (.t 6), (.t 9)])⟩]))⟩
theorem c_slices_Sort_string : compF Tryd.prog ⟨none, none⟩ Tryd.f48 = some r_slices_Sort_string := by kernel_rfl
/-- maps.Keys[map[string]*tenancy/files.file,string,*tenancy/files.file]$1 -/
def r_maps_Keys_1_file : RF :=
  ⟨14, [], (.seq (.reg [⟨(some 4), none, (.ld none (.t 1))⟩, ⟨(some 5), none, .fail⟩]) (.block 0 (.loop (.seq (.reg [⟨(some 6), none, .fail⟩, ⟨(some 7), none, (.ext 0 (.t 6))⟩]) 
  (.seq (.cond (.t 7) .skip (.exit 0)) (.block 1 (.seq (.reg [⟨(some 8), none, .fail⟩, ⟨(some 9), none, (.ext 0 (.t 8))⟩, ⟨(some 3), none, (.mv (.t 9))⟩]) (.seq 
  (.reg [⟨(some 10), none, (.mv (.t 0))⟩, ⟨(some 11), none, (.mv (.t 3))⟩, ⟨(some 12), none, (.calld (.t 10) [(.t 11)])⟩, ⟨(some 13), none, (.un .not (.t 12))⟩]) 
  (.cond (.t 13) .ret .skip)))))))))⟩
theorem c_maps_Keys_1_file : compF Tryd.prog ⟨none, none⟩ Tryd.f49 = some r_maps_Keys_1_file := by kernel_rfl
/-- tenancy/files.isName -/
def r_files_isName : RF :=
  ⟨15, [(.tmp 2)], (.seq (.reg [⟨(some 2), none, (.mv (.k (.bool false)))⟩]) (.seq (.reg [⟨(some 3), none, (.mv (.t 0))⟩, 
  ⟨(some 4), none, (.eq true .s (.t 3) (.k (.str (bts []))))⟩, ⟨(some 5), none, (.mv (.t 4))⟩, ⟨(some 6), (some (5, true)), (.mv (.t 0))⟩, 
  ⟨(some 7), (some (5, true)), (.lens (.t 6))⟩, ⟨(some 8), (some (5, true)), (.bin .leq (.t 7) (.k (.int .i64 32)))⟩, ⟨(some 9), none, (.pick (.t 5) (.t 8) (.k (.bool false)))⟩, 
  ⟨(some 10), none, (.mv (.t 9))⟩, ⟨(some 11), (some (10, true)), (.mv (.t 0))⟩, 
  ⟨(some 12), (some (10, true)), (.call f_strings_Trim [(.t 11), (.k (.str (bts [97, 98, 99, 100, 101, 102, 103, 104, 105, 106, 107, 108, 109, 110, 111, 112, 113, 114, 115, 116, 117, 118, 119, 120, 121, 122, 48, 49, 50, 51, 52, 53, 54, 55, 56, 57, 46, 45])))])⟩, 
  ⟨(some 13), (some (10, true)), (.eq false .s (.t 12) (.k (.str (bts []))))⟩, ⟨(some 14), none, (.pick (.t 10) (.t 13) (.k (.bool false)))⟩, 
  ⟨(some 2), none, (.mv (.t 14))⟩]) .ret))⟩
theorem c_files_isName : compF Tryd.prog ⟨none, none⟩ Tryd.f50 = some r_files_isName := by kernel_rfl
/-- (*tenancy/tenancyref06.Disk).put -/
def r_r06_Disk_put : RF :=
  ⟨70, [], (.seq (.reg [⟨(some 3), none, (.box (some 3) (.t 1))⟩]) (.seq (.reg [⟨(some 4), none, (.mv (.k (.int .i64 0)))⟩]) (.seq (.block 0 (.loop (.seq (.seq 
  (.drw 0 [⟨⟨(some 6), none, (.mv (.t 4))⟩, .pure, [], []⟩, ⟨⟨(some 7), none, (.mv (.t 0))⟩, .pure, [], []⟩, ⟨⟨(some 8), none, (.nck (.t 7))⟩, .pure, [], []⟩, 
  ⟨⟨(some 9), none, (.off 0 (.t 8))⟩, .pure, [], []⟩, ⟨⟨(some 10), none, (.ld none (.t 9))⟩, .ld, [], []⟩, ⟨⟨(some 11), none, (.lenl (.t 10))⟩, .pure, [], []⟩, 
  ⟨⟨(some 12), none, (.bin .lss (.t 6) (.t 11))⟩, .pure, [], []⟩, ⟨⟨(some 13), none, (.mv (.t 12))⟩, .pure, [], []⟩, ⟨⟨(some 14), (some (13, true)), (.mv (.t 0))⟩, .pure, [], []⟩, 
  ⟨⟨(some 15), (some (13, true)), (.nck (.t 14))⟩, .pure, [], []⟩, ⟨⟨(some 16), (some (13, true)), (.off 0 (.t 15))⟩, .pure, [], []⟩, 
  ⟨⟨(some 17), (some (13, true)), (.ld none (.t 16))⟩, .ld, [], []⟩, ⟨⟨(some 18), (some (13, true)), (.mv (.t 4))⟩, .pure, [11], []⟩, 
  ⟨⟨(some 19), (some (13, true)), (.ixa 3 (.t 17) (.t 18))⟩, .pure, [], []⟩, ⟨⟨(some 20), (some (13, true)), (.off 0 (.t 19))⟩, .pure, [], []⟩, 
  ⟨⟨(some 21), (some (13, true)), (.ld none (.t 20))⟩, .ld, [], []⟩, ⟨⟨(some 22), (some (13, true)), (.off 0 (.t 3))⟩, .pure, [11, 15], []⟩, 
  ⟨⟨(some 23), (some (13, true)), (.ld none (.t 22))⟩, .ld, [], []⟩, ⟨⟨(some 24), (some (13, true)), (.bin .lss (.t 21) (.t 23))⟩, .pure, [], []⟩, 
  ⟨⟨(some 25), none, (.pick (.t 13) (.t 24) (.k (.bool false)))⟩, .pure, [], []⟩]) (.cond (.t 25) .skip (.exit 0))) (.block 1 (.reg [⟨(some 26), none, (.mv (.t 4))⟩, 
  ⟨(some 27), none, (.bin .add (.t 26) (.k (.int .i64 1)))⟩, ⟨(some 4), none, (.mv (.t 27))⟩]))))) (.seq (.reg [⟨(some 28), none, (.mv (.t 0))⟩, ⟨(some 29), none, (.mv (.t 0))⟩, 
  ⟨(some 30), none, (.nck (.t 29))⟩, ⟨(some 31), none, (.off 0 (.t 30))⟩, ⟨(some 32), none, (.ld none (.t 31))⟩, 
  ⟨(some 33), none, (.bld [(.str (bts [])), (.str (bts [])), (.int .i64 0)] [])⟩, 
  ⟨(some 34), none, (.bsl 3 1 [(.str (bts [])), (.str (bts [])), (.int .i64 0)] [(0, (3, (.t 33)))])⟩, ⟨(some 35), none, (.app 3 40 (.t 32) (.t 34))⟩, 
  ⟨(some 36), none, (.nck (.t 28))⟩, ⟨(some 37), none, (.off 0 (.t 36))⟩, ⟨none, none, (.st none (.t 37) (.t 35))⟩]) (.seq (.seq (.reg [⟨(some 38), none, (.mv (.t 0))⟩, 
  ⟨(some 39), none, (.nck (.t 38))⟩, ⟨(some 40), none, (.off 0 (.t 39))⟩, ⟨(some 41), none, (.ld none (.t 40))⟩, ⟨(some 42), none, (.lenl (.t 41))⟩, 
  ⟨(some 43), none, (.bin .sub (.t 42) (.k (.int .i64 1)))⟩, ⟨(some 5), none, (.mv (.t 43))⟩]) (.block 2 (.loop (.seq (.seq (.reg [⟨(some 44), none, (.mv (.t 5))⟩, 
  ⟨(some 45), none, (.mv (.t 4))⟩, ⟨(some 46), none, (.bin .gtr (.t 44) (.t 45))⟩]) (.cond (.t 46) .skip (.exit 2))) (.seq (.block 3 
  (.drw 0 [⟨⟨(some 49), none, (.mv (.t 0))⟩, .pure, [], []⟩, ⟨⟨(some 50), none, (.nck (.t 49))⟩, .pure, [], []⟩, ⟨⟨(some 51), none, (.off 0 (.t 50))⟩, .pure, [], []⟩, 
  ⟨⟨(some 52), none, (.ld none (.t 51))⟩, .ld, [], []⟩, ⟨⟨(some 53), none, (.mv (.t 5))⟩, .pure, [3], []⟩, ⟨⟨(some 54), none, (.mv (.t 0))⟩, .pure, [3], []⟩, 
  ⟨⟨(some 55), none, (.nck (.t 54))⟩, .pure, [3], []⟩, ⟨⟨(some 56), none, (.off 0 (.t 55))⟩, .pure, [3], []⟩, ⟨⟨(some 57), none, (.ld none (.t 56))⟩, .ld, [], []⟩, 
  ⟨⟨(some 58), none, (.mv (.t 5))⟩, .pure, [3, 8], []⟩, ⟨⟨(some 59), none, (.bin .sub (.t 58) (.k (.int .i64 1)))⟩, .pure, [3, 8], []⟩, 
  ⟨⟨(some 60), none, (.ixa 3 (.t 57) (.t 59))⟩, .pure, [3], []⟩, ⟨⟨(some 61), none, (.ld (some 3) (.t 60))⟩, .ld, [], []⟩, 
  ⟨⟨(some 62), none, (.ixa 3 (.t 52) (.t 53))⟩, .pure, [], []⟩, ⟨⟨none, none, (.st (some 3) (.t 62) (.t 61))⟩, .eff, [], []⟩])) (.reg [⟨(some 47), none, (.mv (.t 5))⟩, 
  ⟨(some 48), none, (.bin .sub (.t 47) (.k (.int .i64 1)))⟩, ⟨(some 5), none, (.mv (.t 48))⟩])))))) (.drw 0 [⟨⟨(some 63), none, (.mv (.t 0))⟩, .pure, [], []⟩, 
  ⟨⟨(some 64), none, (.nck (.t 63))⟩, .pure, [], []⟩, ⟨⟨(some 65), none, (.off 0 (.t 64))⟩, .pure, [], []⟩, ⟨⟨(some 66), none, (.ld none (.t 65))⟩, .ld, [], []⟩, 
  ⟨⟨(some 67), none, (.mv (.t 4))⟩, .pure, [3], []⟩, ⟨⟨(some 68), none, (.ld (some 3) (.t 3))⟩, .ld, [], []⟩, ⟨⟨(some 69), none, (.ixa 3 (.t 66) (.t 67))⟩, .pure, [], []⟩, 
  ⟨⟨none, none, (.st (some 3) (.t 69) (.t 68))⟩, .eff, [], []⟩]))))))⟩
theorem c_r06_Disk_put : compF Tryd.prog ⟨none, none⟩ Tryd.f51 = some r_r06_Disk_put := by kernel_rfl
/-- (*tenancy/tenancyref06.Disk).power -/
def r_r06_Disk_power : RF :=
  ⟨33, [(.tmp 2)], (.seq (.reg [⟨(some 2), none, (.mv (.k (.bool false)))⟩]) (.seq (.seq (.reg [⟨(some 3), none, (.mv (.t 0))⟩, ⟨(some 4), none, (.nck (.t 3))⟩, 
  ⟨(some 5), none, (.off 2 (.t 4))⟩, ⟨(some 6), none, (.ld none (.t 5))⟩, ⟨(some 7), none, (.eq false .i (.t 6) (.k (.int .i64 0)))⟩]) (.cond (.t 7) (.seq 
  (.reg [⟨(some 8), none, (.mv (.t 0))⟩, ⟨(some 9), none, (.mv (.t 0))⟩, ⟨(some 10), none, (.nck (.t 9))⟩, ⟨(some 11), none, (.off 3 (.t 10))⟩, 
  ⟨(some 12), none, (.ld none (.t 11))⟩, ⟨(some 13), none, (.call f_r06_Disk_goes [(.t 8), (.t 12)])⟩]) (.seq (.reg [⟨(some 2), none, (.mv (.k (.bool false)))⟩]) .ret)) .skip)) 
  (.seq (.seq (.reg [⟨(some 14), none, (.mv (.t 0))⟩, ⟨(some 15), none, (.nck (.t 14))⟩, ⟨(some 16), none, (.off 2 (.t 15))⟩, ⟨(some 17), none, (.ld none (.t 16))⟩, 
  ⟨(some 18), none, (.bin .gtr (.t 17) (.k (.int .i64 0)))⟩]) (.cond (.t 18) (.reg [⟨(some 19), none, (.mv (.t 0))⟩, ⟨(some 20), none, (.nck (.t 19))⟩, 
  ⟨(some 21), none, (.off 2 (.t 20))⟩, ⟨(some 22), none, (.ld none (.t 21))⟩, ⟨(some 23), none, (.bin .sub (.t 22) (.k (.int .i64 1)))⟩, ⟨(some 24), none, (.nck (.t 19))⟩, 
  ⟨(some 25), none, (.off 2 (.t 24))⟩, ⟨none, none, (.st none (.t 25) (.t 23))⟩]) .skip)) (.seq (.reg [⟨(some 26), none, (.mv (.t 0))⟩, ⟨(some 27), none, (.nck (.t 26))⟩, 
  ⟨(some 28), none, (.off 4 (.t 27))⟩, ⟨(some 29), none, (.ld none (.t 28))⟩, ⟨(some 30), none, (.bin .add (.t 29) (.k (.int .i64 1)))⟩, ⟨(some 31), none, (.nck (.t 26))⟩, 
  ⟨(some 32), none, (.off 4 (.t 31))⟩, ⟨none, none, (.st none (.t 32) (.t 30))⟩]) (.seq (.reg [⟨(some 2), none, (.mv (.k (.bool true)))⟩]) .ret)))))⟩
theorem c_r06_Disk_power : compF Tryd.prog ⟨none, none⟩ Tryd.f52 = some r_r06_Disk_power := by kernel_rfl
/-- (*tenancy/tenancyref06.Disk).take -/
def r_r06_Disk_take : RF :=
  ⟨43, [(.cell (some 3) 4)], (.seq (.reg [⟨(some 4), none, (.new [(.str (bts [])), (.str (bts [])), (.int .i64 0)])⟩]) (.seq (.reg [⟨(some 8), none, (.mv (.t 0))⟩, 
  ⟨(some 9), none, (.nck (.t 8))⟩, ⟨(some 10), none, (.off 0 (.t 9))⟩, ⟨(some 11), none, (.ld none (.t 10))⟩, ⟨(some 12), none, (.mv (.t 1))⟩, 
  ⟨(some 13), none, (.ixa 3 (.t 11) (.t 12))⟩, ⟨(some 14), none, (.ld (some 3) (.t 13))⟩, ⟨(some 5), none, (.new [(.str (bts [])), (.str (bts [])), (.int .i64 0)])⟩, 
  ⟨none, none, (.st (some 3) (.t 5) (.t 14))⟩]) (.seq (.reg [⟨(some 15), none, (.bsl 3 0 [(.str (bts [])), (.str (bts [])), (.int .i64 0)] [])⟩, ⟨(some 6), none, (.mv (.t 15))⟩]) 
  (.seq (.seq (.reg [⟨(some 7), none, (.mv (.k (.int .i64 0)))⟩]) (.block 0 (.loop (.seq (.seq (.reg [⟨(some 16), none, (.mv (.t 7))⟩, ⟨(some 17), none, (.mv (.t 0))⟩, 
  ⟨(some 18), none, (.nck (.t 17))⟩, ⟨(some 19), none, (.off 0 (.t 18))⟩, ⟨(some 20), none, (.ld none (.t 19))⟩, ⟨(some 21), none, (.lenl (.t 20))⟩, 
  ⟨(some 22), none, (.bin .lss (.t 16) (.t 21))⟩]) (.cond (.t 22) .skip (.exit 0))) (.seq (.block 1 (.seq (.reg [⟨(some 25), none, (.mv (.t 7))⟩, ⟨(some 26), none, (.mv (.t 1))⟩, 
  ⟨(some 27), none, (.eq true .i (.t 25) (.t 26))⟩]) (.cond (.t 27) (.reg [⟨(some 28), none, (.mv (.t 6))⟩, ⟨(some 29), none, (.mv (.t 0))⟩, ⟨(some 30), none, (.nck (.t 29))⟩, 
  ⟨(some 31), none, (.off 0 (.t 30))⟩, ⟨(some 32), none, (.ld none (.t 31))⟩, ⟨(some 33), none, (.mv (.t 7))⟩, ⟨(some 34), none, (.ixa 3 (.t 32) (.t 33))⟩, 
  ⟨(some 35), none, (.ld (some 3) (.t 34))⟩, ⟨(some 36), none, (.bsl 3 1 [(.str (bts [])), (.str (bts [])), (.int .i64 0)] [(0, (3, (.t 35)))])⟩, 
  ⟨(some 37), none, (.app 3 40 (.t 28) (.t 36))⟩, ⟨(some 6), none, (.mv (.t 37))⟩]) .skip))) (.reg [⟨(some 23), none, (.mv (.t 7))⟩, 
  ⟨(some 24), none, (.bin .add (.t 23) (.k (.int .i64 1)))⟩, ⟨(some 7), none, (.mv (.t 24))⟩])))))) (.seq (.reg [⟨(some 38), none, (.mv (.t 0))⟩, ⟨(some 39), none, (.mv (.t 6))⟩, 
  ⟨(some 40), none, (.nck (.t 38))⟩, ⟨(some 41), none, (.off 0 (.t 40))⟩, ⟨none, none, (.st none (.t 41) (.t 39))⟩]) (.seq (.reg [⟨(some 42), none, (.ld (some 3) (.t 5))⟩, 
  ⟨none, none, (.st (some 3) (.t 4) (.t 42))⟩]) .ret))))))⟩
theorem c_r06_Disk_take : compF Tryd.prog ⟨none, none⟩ Tryd.f53 = some r_r06_Disk_take := by kernel_rfl
/-- (*tenancy/tenancyref06.Disk).goes -/
def r_r06_Disk_goes : RF :=
  ⟨87, [], (.seq (.seq (.reg [⟨(some 4), none, (.mv (.k (.int .i64 0)))⟩]) (.block 0 (.loop (.seq (.seq (.reg [⟨(some 7), none, (.mv (.t 4))⟩, ⟨(some 8), none, (.mv (.t 0))⟩, 
  ⟨(some 9), none, (.nck (.t 8))⟩, ⟨(some 10), none, (.off 0 (.t 9))⟩, ⟨(some 11), none, (.ld none (.t 10))⟩, ⟨(some 12), none, (.lenl (.t 11))⟩, 
  ⟨(some 13), none, (.bin .lss (.t 7) (.t 12))⟩]) (.cond (.t 13) .skip (.exit 0))) (.seq (.block 1 (.seq (.drw 0 [⟨⟨(some 16), none, (.mv (.t 0))⟩, .pure, [], []⟩, 
  ⟨⟨(some 17), none, (.nck (.t 16))⟩, .pure, [], []⟩, ⟨⟨(some 18), none, (.off 0 (.t 17))⟩, .pure, [], []⟩, ⟨⟨(some 19), none, (.ld none (.t 18))⟩, .ld, [], []⟩, 
  ⟨⟨(some 20), none, (.mv (.t 4))⟩, .pure, [3], []⟩, ⟨⟨(some 21), none, (.ixa 3 (.t 19) (.t 20))⟩, .pure, [], []⟩, ⟨⟨(some 22), none, (.off 1 (.t 21))⟩, .pure, [], []⟩, 
  ⟨⟨(some 23), none, (.ld none (.t 22))⟩, .ld, [], []⟩, ⟨⟨(some 24), none, (.lens (.t 23))⟩, .pure, [], []⟩, ⟨⟨(some 25), none, (.mv (.t 0))⟩, .pure, [3, 7], []⟩, 
  ⟨⟨(some 26), none, (.nck (.t 25))⟩, .pure, [3, 7], []⟩, ⟨⟨(some 27), none, (.off 0 (.t 26))⟩, .pure, [3, 7], []⟩, ⟨⟨(some 28), none, (.ld none (.t 27))⟩, .ld, [], []⟩, 
  ⟨⟨(some 29), none, (.mv (.t 4))⟩, .pure, [3, 7, 12], []⟩, ⟨⟨(some 30), none, (.ixa 3 (.t 28) (.t 29))⟩, .pure, [3, 7], []⟩, 
  ⟨⟨(some 31), none, (.off 2 (.t 30))⟩, .pure, [3, 7], []⟩, ⟨⟨(some 32), none, (.ld none (.t 31))⟩, .ld, [], []⟩, ⟨⟨(some 33), none, (.bin .sub (.t 24) (.t 32))⟩, .pure, [], []⟩, 
  ⟨⟨(some 5), none, (.mv (.t 33))⟩, .pure, [], []⟩]) (.seq (.reg [⟨(some 6), none, (.mv (.k (.int .i64 0)))⟩]) (.seq (.seq (.reg [⟨(some 34), none, (.mv (.t 1))⟩, 
  ⟨(some 35), none, (.bin .gtr (.t 34) (.k (.int .i64 0)))⟩]) (.cond (.t 35) (.reg [⟨(some 36), none, (.mv (.t 1))⟩, ⟨(some 37), none, (.mv (.t 5))⟩, 
  ⟨(some 38), none, (.bin .add (.t 37) (.k (.int .i64 1)))⟩, ⟨(some 39), none, (.bin .rem (.t 36) (.t 38))⟩, ⟨(some 6), none, (.mv (.t 39))⟩]) .skip)) (.seq 
  (.drw 0 [⟨⟨(some 40), none, (.mv (.t 0))⟩, .pure, [], []⟩, ⟨⟨(some 41), none, (.nck (.t 40))⟩, .pure, [], []⟩, ⟨⟨(some 42), none, (.off 0 (.t 41))⟩, .pure, [], []⟩, 
  ⟨⟨(some 43), none, (.ld none (.t 42))⟩, .ld, [], []⟩, ⟨⟨(some 44), none, (.mv (.t 4))⟩, .pure, [3], []⟩, ⟨⟨(some 45), none, (.mv (.t 0))⟩, .pure, [3], []⟩, 
  ⟨⟨(some 46), none, (.nck (.t 45))⟩, .pure, [3], []⟩, ⟨⟨(some 47), none, (.off 0 (.t 46))⟩, .pure, [3], []⟩, ⟨⟨(some 48), none, (.ld none (.t 47))⟩, .ld, [], []⟩, 
  ⟨⟨(some 49), none, (.mv (.t 4))⟩, .pure, [3, 8], []⟩, ⟨⟨(some 50), none, (.ixa 3 (.t 48) (.t 49))⟩, .pure, [3], []⟩, ⟨⟨(some 51), none, (.off 2 (.t 50))⟩, .pure, [3], []⟩, 
  ⟨⟨(some 52), none, (.ld none (.t 51))⟩, .ld, [], []⟩, ⟨⟨(some 53), none, (.mv (.t 6))⟩, .pure, [3, 8, 12], []⟩, ⟨⟨(some 54), none, (.bin .add (.t 52) (.t 53))⟩, .pure, [3], []⟩, 
  ⟨⟨(some 55), none, (.ixa 3 (.t 43) (.t 44))⟩, .pure, [], []⟩, ⟨⟨(some 56), none, (.off 2 (.t 55))⟩, .pure, [], []⟩, ⟨⟨none, none, (.st none (.t 56) (.t 54))⟩, .eff, [], []⟩]) 
  (.drw 0 [⟨⟨(some 57), none, (.mv (.t 0))⟩, .pure, [], []⟩, ⟨⟨(some 58), none, (.nck (.t 57))⟩, .pure, [], []⟩, ⟨⟨(some 59), none, (.off 0 (.t 58))⟩, .pure, [], []⟩, 
  ⟨⟨(some 60), none, (.ld none (.t 59))⟩, .ld, [], []⟩, ⟨⟨(some 61), none, (.mv (.t 4))⟩, .pure, [3], []⟩, ⟨⟨(some 62), none, (.mv (.t 0))⟩, .pure, [3], []⟩, 
  ⟨⟨(some 63), none, (.nck (.t 62))⟩, .pure, [3], []⟩, ⟨⟨(some 64), none, (.off 0 (.t 63))⟩, .pure, [3], []⟩, ⟨⟨(some 65), none, (.ld none (.t 64))⟩, .ld, [], []⟩, 
  ⟨⟨(some 66), none, (.mv (.t 4))⟩, .pure, [3, 8], []⟩, ⟨⟨(some 67), none, (.ixa 3 (.t 65) (.t 66))⟩, .pure, [3], []⟩, ⟨⟨(some 68), none, (.off 1 (.t 67))⟩, .pure, [3], []⟩, 
  ⟨⟨(some 69), none, (.ld none (.t 68))⟩, .ld, [], []⟩, ⟨⟨(some 70), none, (.mv (.t 0))⟩, .pure, [3, 8, 12], []⟩, ⟨⟨(some 71), none, (.nck (.t 70))⟩, .pure, [3, 8, 12], []⟩, 
  ⟨⟨(some 72), none, (.off 0 (.t 71))⟩, .pure, [3, 8, 12], []⟩, ⟨⟨(some 73), none, (.ld none (.t 72))⟩, .ld, [], []⟩, ⟨⟨(some 74), none, (.mv (.t 4))⟩, .pure, [3, 8, 12, 16], []⟩, 
  ⟨⟨(some 75), none, (.ixa 3 (.t 73) (.t 74))⟩, .pure, [3, 8, 12], []⟩, ⟨⟨(some 76), none, (.off 2 (.t 75))⟩, .pure, [3, 8, 12], []⟩, 
  ⟨⟨(some 77), none, (.ld none (.t 76))⟩, .ld, [], []⟩, ⟨⟨(some 78), none, (.sls (.t 69) none (some (.t 77)))⟩, .pure, [3], []⟩, 
  ⟨⟨(some 79), none, (.ixa 3 (.t 60) (.t 61))⟩, .pure, [], []⟩, ⟨⟨(some 80), none, (.off 1 (.t 79))⟩, .pure, [], []⟩, ⟨⟨none, none, (.st none (.t 80) (.t 78))⟩, .eff, [], []⟩])))))) 
  (.reg [⟨(some 14), none, (.mv (.t 4))⟩, ⟨(some 15), none, (.bin .add (.t 14) (.k (.int .i64 1)))⟩, ⟨(some 4), none, (.mv (.t 15))⟩])))))) (.seq 
  (.reg [⟨(some 81), none, (.mv (.t 0))⟩, ⟨(some 82), none, (.nck (.t 81))⟩, ⟨(some 83), none, (.off 1 (.t 82))⟩, ⟨none, none, (.st none (.t 83) (.k (.bool true)))⟩]) 
  (.reg [⟨(some 84), none, (.mv (.t 0))⟩, ⟨(some 85), none, (.nck (.t 84))⟩, ⟨(some 86), none, (.off 2 (.t 85))⟩, ⟨none, none, (.st none (.t 86) (.k (.int .i64 (-1))))⟩])))⟩
theorem c_r06_Disk_goes : compF Tryd.prog ⟨none, none⟩ Tryd.f54 = some r_r06_Disk_goes := by kernel_rfl
/-- tenancy/tenancyref06.Name -/
def r_r06_Name : RF :=
  ⟨45, [(.tmp 2)], (.seq (.reg [⟨(some 2), none, (.mv (.k (.bool false)))⟩]) (.seq (.seq (.reg [⟨(some 5), none, (.mv (.t 0))⟩, ⟨(some 6), none, (.lens (.t 5))⟩, 
  ⟨(some 7), none, (.bin .lss (.t 6) (.k (.int .i64 1)))⟩, ⟨(some 8), none, (.mv (.t 7))⟩, ⟨(some 9), (some (8, false)), (.mv (.t 0))⟩, 
  ⟨(some 10), (some (8, false)), (.lens (.t 9))⟩, ⟨(some 11), (some (8, false)), (.bin .gtr (.t 10) (.k (.int .i64 32)))⟩, 
  ⟨(some 12), none, (.pick (.t 8) (.k (.bool true)) (.t 11))⟩]) (.cond (.t 12) (.seq (.reg [⟨(some 2), none, (.mv (.k (.bool false)))⟩]) .ret) .skip)) (.seq (.seq 
  (.reg [⟨(some 3), none, (.mv (.k (.int .i64 0)))⟩]) (.block 0 (.loop (.seq (.seq (.reg [⟨(some 13), none, (.mv (.t 3))⟩, ⟨(some 14), none, (.mv (.t 0))⟩, 
  ⟨(some 15), none, (.lens (.t 14))⟩, ⟨(some 16), none, (.bin .lss (.t 13) (.t 15))⟩]) (.cond (.t 16) .skip (.exit 0))) (.seq (.block 1 (.seq (.reg [⟨(some 19), none, (.mv (.t 0))⟩, 
  ⟨(some 20), none, (.mv (.t 3))⟩, ⟨(some 21), none, (.ixs (.t 19) (.t 20))⟩, ⟨(some 4), none, (.mv (.t 21))⟩]) (.seq (.reg [⟨(some 22), none, (.mv (.t 4))⟩, 
  ⟨(some 23), none, (.bin .geq (.t 22) (.k (.int .u8 97)))⟩, ⟨(some 24), none, (.mv (.t 23))⟩, ⟨(some 25), (some (24, true)), (.mv (.t 4))⟩, 
  ⟨(some 26), (some (24, true)), (.bin .leq (.t 25) (.k (.int .u8 122)))⟩, ⟨(some 27), none, (.pick (.t 24) (.t 26) (.k (.bool false)))⟩, ⟨(some 28), none, (.mv (.t 27))⟩, 
  ⟨(some 29), (some (28, false)), (.mv (.t 4))⟩, ⟨(some 30), (some (28, false)), (.bin .geq (.t 29) (.k (.int .u8 48)))⟩, ⟨(some 31), (some (28, false)), (.mv (.t 30))⟩, 
  ⟨(some 32), (some (31, true)), (.mv (.t 4))⟩, ⟨(some 33), (some (31, true)), (.bin .leq (.t 32) (.k (.int .u8 57)))⟩, 
  ⟨(some 34), (some (28, false)), (.pick (.t 31) (.t 33) (.k (.bool false)))⟩, ⟨(some 35), none, (.pick (.t 28) (.k (.bool true)) (.t 34))⟩, ⟨(some 36), none, (.mv (.t 35))⟩, 
  ⟨(some 37), (some (36, false)), (.mv (.t 4))⟩, ⟨(some 38), (some (36, false)), (.eq false .i (.t 37) (.k (.int .u8 46)))⟩, 
  ⟨(some 39), none, (.pick (.t 36) (.k (.bool true)) (.t 38))⟩, ⟨(some 40), none, (.mv (.t 39))⟩, ⟨(some 41), (some (40, false)), (.mv (.t 4))⟩, 
  ⟨(some 42), (some (40, false)), (.eq false .i (.t 41) (.k (.int .u8 45)))⟩, ⟨(some 43), none, (.pick (.t 40) (.k (.bool true)) (.t 42))⟩, ⟨(some 44), none, (.un .not (.t 43))⟩]) 
  (.cond (.t 44) (.seq (.reg [⟨(some 2), none, (.mv (.k (.bool false)))⟩]) .ret) .skip)))) (.reg [⟨(some 17), none, (.mv (.t 3))⟩, 
  ⟨(some 18), none, (.bin .add (.t 17) (.k (.int .i64 1)))⟩, ⟨(some 3), none, (.mv (.t 18))⟩])))))) (.seq (.reg [⟨(some 2), none, (.mv (.k (.bool true)))⟩]) .ret))))⟩
theorem c_r06_Name : compF Tryd.prog ⟨none, none⟩ Tryd.f55 = some r_r06_Name := by kernel_rfl
/-- slices.pdqsortOrdered[string] -/
def r_slices_pdqsortOrdered_string : RF :=
  ⟨134, [], (.seq (.reg [⟨(some 8), none, (.mv (.k (.bool true)))⟩]) (.seq (.reg [⟨(some 9), none, (.mv (.k (.bool true)))⟩]) (.block 0 (.loop (.block 1 (.seq 
  (.reg [⟨(some 19), none, (.mv (.t 2))⟩, ⟨(some 20), none, (.mv (.t 1))⟩, ⟨(some 21), none, (.bin .sub (.t 19) (.t 20))⟩, ⟨(some 10), none, (.mv (.t 21))⟩]) (.seq (.seq 
  (.reg [⟨(some 22), none, (.mv (.t 10))⟩, ⟨(some 23), none, (.bin .leq (.t 22) (.k (.int .i64 12)))⟩]) (.cond (.t 23) (.seq (.reg [⟨(some 24), none, (.mv (.t 0))⟩, 
  ⟨(some 25), none, (.mv (.t 1))⟩, ⟨(some 26), none, (.mv (.t 2))⟩, ⟨(some 27), none, (.call f_slices_insertionSortOrdered_string [(.t 24), (.t 25), (.t 26)])⟩]) .ret) .skip)) (.seq 
  (.seq (.reg [⟨(some 28), none, (.mv (.t 3))⟩, ⟨(some 29), none, (.eq false .i (.t 28) (.k (.int .i64 0)))⟩]) (.cond (.t 29) (.seq (.reg [⟨(some 30), none, (.mv (.t 0))⟩, 
  ⟨(some 31), none, (.mv (.t 1))⟩, ⟨(some 32), none, (.mv (.t 2))⟩, ⟨(some 33), none, (.call f_slices_heapSortOrdered_string [(.t 30), (.t 31), (.t 32)])⟩]) .ret) .skip)) (.seq 
  (.seq (.reg [⟨(some 34), none, (.mv (.t 8))⟩, ⟨(some 35), none, (.un .not (.t 34))⟩]) (.cond (.t 35) (.seq (.reg [⟨(some 36), none, (.mv (.t 0))⟩, ⟨(some 37), none, (.mv (.t 1))⟩, 
  ⟨(some 38), none, (.mv (.t 2))⟩, ⟨(some 39), none, (.call f_slices_breakPatternsOrdered_string [(.t 36), (.t 37), (.t 38)])⟩]) (.reg [⟨(some 40), none, (.mv (.t 3))⟩, 
  ⟨(some 41), none, (.bin .sub (.t 40) (.k (.int .i64 1)))⟩, ⟨(some 3), none, (.mv (.t 41))⟩])) .skip)) (.seq (.reg [⟨(some 43), none, (.mv (.t 0))⟩, 
  ⟨(some 44), none, (.mv (.t 1))⟩, ⟨(some 45), none, (.mv (.t 2))⟩, ⟨(some 46), none, (.call f_slices_choosePivotOrdered_string [(.t 43), (.t 44), (.t 45)])⟩, 
  ⟨(some 42), none, (.mv (.t 46))⟩, ⟨(some 47), none, (.ext 0 (.t 42))⟩, ⟨(some 48), none, (.ext 1 (.t 42))⟩, ⟨(some 11), none, (.mv (.t 47))⟩, ⟨(some 12), none, (.mv (.t 48))⟩]) 
  (.seq (.seq (.reg [⟨(some 49), none, (.mv (.t 12))⟩, ⟨(some 50), none, (.eq false .i (.t 49) (.k (.int .i64 2)))⟩]) (.cond (.t 50) (.seq (.reg [⟨(some 51), none, (.mv (.t 0))⟩, 
  ⟨(some 52), none, (.mv (.t 1))⟩, ⟨(some 53), none, (.mv (.t 2))⟩, ⟨(some 54), none, (.call f_slices_reverseRangeOrdered_string [(.t 51), (.t 52), (.t 53)])⟩]) (.seq 
  (.reg [⟨(some 55), none, (.mv (.t 2))⟩, ⟨(some 56), none, (.bin .sub (.t 55) (.k (.int .i64 1)))⟩, ⟨(some 57), none, (.mv (.t 11))⟩, ⟨(some 58), none, (.mv (.t 1))⟩, 
  ⟨(some 59), none, (.bin .sub (.t 57) (.t 58))⟩, ⟨(some 60), none, (.bin .sub (.t 56) (.t 59))⟩, ⟨(some 11), none, (.mv (.t 60))⟩]) 
  (.reg [⟨(some 12), none, (.mv (.k (.int .i64 1)))⟩]))) .skip)) (.seq (.seq (.reg [⟨(some 61), none, (.mv (.t 8))⟩, ⟨(some 62), none, (.mv (.t 61))⟩, 
  ⟨(some 63), (some (62, true)), (.mv (.t 9))⟩, ⟨(some 64), none, (.pick (.t 62) (.t 63) (.k (.bool false)))⟩, ⟨(some 65), none, (.mv (.t 64))⟩, 
  ⟨(some 66), (some (65, true)), (.mv (.t 12))⟩, ⟨(some 67), (some (65, true)), (.eq false .i (.t 66) (.k (.int .i64 1)))⟩, 
  ⟨(some 68), none, (.pick (.t 65) (.t 67) (.k (.bool false)))⟩]) (.cond (.t 68) (.seq (.reg [⟨(some 69), none, (.mv (.t 0))⟩, ⟨(some 70), none, (.mv (.t 1))⟩, 
  ⟨(some 71), none, (.mv (.t 2))⟩, ⟨(some 72), none, (.call f_slices_partialInsertionSortOrdered_string [(.t 69), (.t 70), (.t 71)])⟩]) (.cond (.t 72) .ret .skip)) .skip)) (.seq 
  (.seq (.drw 0 [⟨⟨(some 73), none, (.mv (.t 1))⟩, .pure, [], []⟩, ⟨⟨(some 74), none, (.bin .gtr (.t 73) (.k (.int .i64 0)))⟩, .pure, [], []⟩, 
  ⟨⟨(some 75), none, (.mv (.t 74))⟩, .pure, [], []⟩, ⟨⟨(some 76), (some (75, true)), (.mv (.t 0))⟩, .pure, [], []⟩, ⟨⟨(some 77), (some (75, true)), (.mv (.t 1))⟩, .pure, [], []⟩, 
  ⟨⟨(some 78), (some (75, true)), (.bin .sub (.t 77) (.k (.int .i64 1)))⟩, .pure, [], []⟩, ⟨⟨(some 79), (some (75, true)), (.ixa 1 (.t 76) (.t 78))⟩, .pure, [], []⟩, 
  ⟨⟨(some 80), (some (75, true)), (.ld none (.t 79))⟩, .ld, [], []⟩, ⟨⟨(some 81), (some (75, true)), (.mv (.t 0))⟩, .pure, [7], []⟩, 
  ⟨⟨(some 82), (some (75, true)), (.mv (.t 11))⟩, .pure, [7], []⟩, ⟨⟨(some 83), (some (75, true)), (.ixa 1 (.t 81) (.t 82))⟩, .pure, [7], []⟩, 
  ⟨⟨(some 84), (some (75, true)), (.ld none (.t 83))⟩, .ld, [], []⟩, ⟨⟨(some 85), (some (75, true)), (.call f_cmp_Less_string [(.t 80), (.t 84)])⟩, .eff, [], []⟩, 
  ⟨⟨(some 86), (some (75, true)), (.un .not (.t 85))⟩, .pure, [], []⟩, ⟨⟨(some 87), none, (.pick (.t 75) (.t 86) (.k (.bool false)))⟩, .pure, [], []⟩]) (.cond (.t 87) (.seq 
  (.reg [⟨(some 88), none, (.mv (.t 0))⟩, ⟨(some 89), none, (.mv (.t 1))⟩, ⟨(some 90), none, (.mv (.t 2))⟩, ⟨(some 91), none, (.mv (.t 11))⟩, 
  ⟨(some 92), none, (.call f_slices_partitionEqualOrdered_string [(.t 88), (.t 89), (.t 90), (.t 91)])⟩, ⟨(some 13), none, (.mv (.t 92))⟩]) (.seq 
  (.reg [⟨(some 93), none, (.mv (.t 13))⟩, ⟨(some 1), none, (.mv (.t 93))⟩]) (.exit 1))) .skip)) (.seq (.reg [⟨(some 95), none, (.mv (.t 0))⟩, ⟨(some 96), none, (.mv (.t 1))⟩, 
  ⟨(some 97), none, (.mv (.t 2))⟩, ⟨(some 98), none, (.mv (.t 11))⟩, ⟨(some 99), none, (.call f_slices_partitionOrdered_string [(.t 95), (.t 96), (.t 97), (.t 98)])⟩, 
  ⟨(some 94), none, (.mv (.t 99))⟩, ⟨(some 100), none, (.ext 0 (.t 94))⟩, ⟨(some 101), none, (.ext 1 (.t 94))⟩, ⟨(some 14), none, (.mv (.t 100))⟩, 
  ⟨(some 15), none, (.mv (.t 101))⟩]) (.seq (.reg [⟨(some 102), none, (.mv (.t 15))⟩, ⟨(some 9), none, (.mv (.t 102))⟩]) (.seq (.reg [⟨(some 103), none, (.mv (.t 14))⟩, 
  ⟨(some 104), none, (.mv (.t 1))⟩, ⟨(some 105), none, (.bin .sub (.t 103) (.t 104))⟩, ⟨(some 106), none, (.mv (.t 2))⟩, ⟨(some 107), none, (.mv (.t 14))⟩, 
  ⟨(some 108), none, (.bin .sub (.t 106) (.t 107))⟩, ⟨(some 16), none, (.mv (.t 105))⟩, ⟨(some 17), none, (.mv (.t 108))⟩]) (.seq (.reg [⟨(some 109), none, (.mv (.t 10))⟩, 
  ⟨(some 110), none, (.bin .quo (.t 109) (.k (.int .i64 8)))⟩, ⟨(some 18), none, (.mv (.t 110))⟩]) (.seq (.reg [⟨(some 111), none, (.mv (.t 16))⟩, ⟨(some 112), none, (.mv (.t 17))⟩, 
  ⟨(some 113), none, (.bin .lss (.t 111) (.t 112))⟩]) (.cond (.t 113) (.seq (.reg [⟨(some 114), none, (.mv (.t 16))⟩, ⟨(some 115), none, (.mv (.t 18))⟩, 
  ⟨(some 116), none, (.bin .geq (.t 114) (.t 115))⟩, ⟨(some 8), none, (.mv (.t 116))⟩]) (.seq (.reg [⟨(some 117), none, (.mv (.t 0))⟩, ⟨(some 118), none, (.mv (.t 1))⟩, 
  ⟨(some 119), none, (.mv (.t 14))⟩, ⟨(some 120), none, (.mv (.t 3))⟩, ⟨(some 121), none, (.call f_slices_pdqsortOrdered_string [(.t 117), (.t 118), (.t 119), (.t 120)])⟩]) 
  (.reg [⟨(some 122), none, (.mv (.t 14))⟩, ⟨(some 123), none, (.bin .add (.t 122) (.k (.int .i64 1)))⟩, ⟨(some 1), none, (.mv (.t 123))⟩]))) (.seq 
  (.reg [⟨(some 124), none, (.mv (.t 17))⟩, ⟨(some 125), none, (.mv (.t 18))⟩, ⟨(some 126), none, (.bin .geq (.t 124) (.t 125))⟩, ⟨(some 8), none, (.mv (.t 126))⟩]) (.seq 
  (.reg [⟨(some 127), none, (.mv (.t 0))⟩, ⟨(some 128), none, (.mv (.t 14))⟩, ⟨(some 129), none, (.bin .add (.t 128) (.k (.int .i64 1)))⟩, ⟨(some 130), none, (.mv (.t 2))⟩, 
  ⟨(some 131), none, (.mv (.t 3))⟩, ⟨(some 132), none, (.call f_slices_pdqsortOrdered_string [(.t 127), (.t 129), (.t 130), (.t 131)])⟩]) (.reg [⟨(some 133), none, (.mv (.t 14))⟩, 
  ⟨(some 2), none, (.mv (.t 133))⟩]))))))))))))))))))))))⟩
theorem c_slices_pdqsortOrdered_string : compF Tryd.prog ⟨none, none⟩ Tryd.f57 = some r_slices_pdqsortOrdered_string := by kernel_rfl
/-- math/bits.Len -/
def r_bits_Len : RF :=
  ⟨8, [(.tmp 2)], (.seq (.reg [⟨(some 2), none, (.mv (.k (.int .i64 0)))⟩]) (.seq (.cond (.k (.bool false)) (.seq (.reg [⟨(some 3), none, (.mv (.t 0))⟩, 
  ⟨(some 4), none, (.cvi .u32 (.t 3))⟩, ⟨(some 5), none, (.call f_bits_Len32 [(.t 4)])⟩, ⟨(some 2), none, (.mv (.t 5))⟩]) .ret) .skip) (.seq (.reg [⟨(some 6), none, (.mv (.t 0))⟩, 
  ⟨(some 7), none, (.call f_bits_Len64 [(.t 6)])⟩, ⟨(some 2), none, (.mv (.t 7))⟩]) .ret)))⟩
theorem c_bits_Len : compF Tryd.prog ⟨none, none⟩ Tryd.f58 = some r_bits_Len := by kernel_rfl
/-- strings.Trim -/
def r_strings_Trim : RF :=
  ⟨43, [(.tmp 4)], (.seq (.reg [⟨(some 4), none, (.mv (.k (.str (bts []))))⟩]) (.seq (.seq (.reg [⟨(some 7), none, (.mv (.t 0))⟩, 
  ⟨(some 8), none, (.eq false .s (.t 7) (.k (.str (bts []))))⟩, ⟨(some 9), none, (.mv (.t 8))⟩, ⟨(some 10), (some (9, false)), (.mv (.t 1))⟩, 
  ⟨(some 11), (some (9, false)), (.eq false .s (.t 10) (.k (.str (bts []))))⟩, ⟨(some 12), none, (.pick (.t 9) (.k (.bool true)) (.t 11))⟩]) (.cond (.t 12) (.seq 
  (.reg [⟨(some 13), none, (.mv (.t 0))⟩, ⟨(some 4), none, (.mv (.t 13))⟩]) .ret) .skip)) (.seq (.seq (.reg [⟨(some 14), none, (.mv (.t 1))⟩, ⟨(some 15), none, (.lens (.t 14))⟩, 
  ⟨(some 16), none, (.eq false .i (.t 15) (.k (.int .i64 1)))⟩, ⟨(some 17), none, (.mv (.t 16))⟩, ⟨(some 18), (some (17, true)), (.mv (.t 1))⟩, 
  ⟨(some 19), (some (17, true)), (.ixs (.t 18) (.k (.int .i64 0)))⟩, ⟨(some 20), (some (17, true)), (.bin .lss (.t 19) (.k (.int .u8 128)))⟩, 
  ⟨(some 21), none, (.pick (.t 17) (.t 20) (.k (.bool false)))⟩]) (.cond (.t 21) (.seq (.drw 0 [⟨⟨(some 22), none, (.mv (.t 0))⟩, .pure, [], []⟩, 
  ⟨⟨(some 23), none, (.mv (.t 1))⟩, .pure, [], []⟩, ⟨⟨(some 24), none, (.ixs (.t 23) (.k (.int .i64 0)))⟩, .pure, [], []⟩, 
  ⟨⟨(some 25), none, (.call f_strings_trimRightByte [(.t 22), (.t 24)])⟩, .eff, [], []⟩, ⟨⟨(some 26), none, (.mv (.t 1))⟩, .pure, [], []⟩, 
  ⟨⟨(some 27), none, (.ixs (.t 26) (.k (.int .i64 0)))⟩, .pure, [], []⟩, ⟨⟨(some 28), none, (.call f_strings_trimLeftByte [(.t 25), (.t 27)])⟩, .eff, [], []⟩, 
  ⟨⟨(some 4), none, (.mv (.t 28))⟩, .pure, [], []⟩]) .ret) .skip)) (.seq (.seq (.reg [⟨(some 30), none, (.mv (.t 1))⟩, ⟨(some 31), none, (.call f_strings_makeASCIISet [(.t 30)])⟩, 
  ⟨(some 29), none, (.mv (.t 31))⟩, ⟨(some 32), none, (.ext 0 (.t 29))⟩, ⟨(some 33), none, (.ext 1 (.t 29))⟩, 
  ⟨(some 5), none, (.new [(.bool false), (.bool false), (.bool false), (.bool false), (.bool false), (.bool false), (.bool false), (.bool false), (.bool false), (.bool false), (.bool false), (.bool false), (.bool false), (.bool false), (.bool false), (.bool false), (.bool false), (.bool false), (.bool false), (.bool false), (.bool false), (.bool false), (.bool false), (.bool false), (.bool false), (.bool false), (.bool false), (.bool false), (.bool false), (.bool false), (.bool false), (.bool false), (.bool false), (.bool false), (.bool false), (.bool false), (.bool false), (.bool false), (.bool false), (.bool false), (.bool false), (.bool false), (.bool false), (.bool false), (.bool false), (.bool false), (.bool false), (.bool false), (.bool false), (.bool false), (.bool false), (.bool false), (.bool false), (.bool false), (.bool false), (.bool false), (.bool false), (.bool false), (.bool false), (.bool false), (.bool false), (.bool false), (.bool false), (.bool false), (.bool false), (.bool false), (.bool false), (.bool false), (.bool false), (.bool false), (.bool false), (.bool false), (.bool false), (.bool false), (.bool false), (.bool false), (.bool false), (.bool false), (.bool false), (.bool false), (.bool false), (.bool false), (.bool false), (.bool false), (.bool false), (.bool false), (.bool false), (.bool false), (.bool false), (.bool false), (.bool false), (.bool false), (.bool false), (.bool false), (.bool false), (.bool false), (.bool false), (.bool false), (.bool false), (.bool false), (.bool false), (.bool false), (.bool false), (.bool false), (.bool false), (.bool false), (.bool false), (.bool false), (.bool false), (.bool false), (.bool false), (.bool false), (.bool false), (.bool false), (.bool false), (.bool false), (.bool false), (.bool false), (.bool false), (.bool false), (.bool false), (.bool false), (.bool false), (.bool false), (.bool false), (.bool false), (.bool false), (.bool false), (.bool false), (.bool false), (.bool false), (.bool false), (.bool false), (.bool false), (.bool false), (.bool false), (.bool false), (.bool false), (.bool false), (.bool false), (.bool false), (.bool false), (.bool false), (.bool false), (.bool false), (.bool false), (.bool false), (.bool false), (.bool false), (.bool false), (.bool false), (.bool false), (.bool false), (.bool false), (.bool false), (.bool false), (.bool false), (.bool false), (.bool false), (.bool false), (.bool false), (.bool false), (.bool false), (.bool false), (.bool false), (.bool false), (.bool false), (.bool false), (.bool false), (.bool false), (.bool false), (.bool false), (.bool false), (.bool false), (.bool false), (.bool false), (.bool false), (.bool false), (.bool false), (.bool false), (.bool false), (.bool false), (.bool false), (.bool false), (.bool false), (.bool false), (.bool false), (.bool false), (.bool false), (.bool false), (.bool false), (.bool false), (.bool false), (.bool false), (.bool false), (.bool false), (.bool false), (.bool false), (.bool false), (.bool false), (.bool false), (.bool false), (.bool false), (.bool false), (.bool false), (.bool false), (.bool false), (.bool false), (.bool false), (.bool false), (.bool false), (.bool false), (.bool false), (.bool false), (.bool false), (.bool false), (.bool false), (.bool false), (.bool false), (.bool false), (.bool false), (.bool false), (.bool false), (.bool false), (.bool false), (.bool false), (.bool false), (.bool false), (.bool false), (.bool false), (.bool false), (.bool false), (.bool false), (.bool false), (.bool false), (.bool false), (.bool false), (.bool false), (.bool false), (.bool false), (.bool false), (.bool false), (.bool false), (.bool false), (.bool false), (.bool false), (.bool false), (.bool false), (.bool false), (.bool false), (.bool false), (.bool false), (.bool false), (.bool false), (.bool false), (.bool false)])⟩, 
  ⟨none, none, (.st (some 256) (.t 5) (.t 32))⟩, ⟨(some 6), none, (.mv (.t 33))⟩]) (.seq (.reg [⟨(some 34), none, (.mv (.t 6))⟩]) (.cond (.t 34) (.seq 
  (.reg [⟨(some 35), none, (.mv (.t 0))⟩, ⟨(some 36), none, (.call f_strings_trimRightASCII [(.t 35), (.t 5)])⟩, 
  ⟨(some 37), none, (.call f_strings_trimLeftASCII [(.t 36), (.t 5)])⟩, ⟨(some 4), none, (.mv (.t 37))⟩]) .ret) .skip))) (.seq (.reg [⟨(some 38), none, (.mv (.t 0))⟩, 
  ⟨(some 39), none, (.mv (.t 1))⟩, ⟨(some 40), none, (.call f_strings_trimRightUnicode [(.t 38), (.t 39)])⟩, ⟨(some 41), none, (.mv (.t 1))⟩, 
  ⟨(some 42), none, (.call f_strings_trimLeftUnicode [(.t 40), (.t 41)])⟩, ⟨(some 4), none, (.mv (.t 42))⟩]) .ret)))))⟩
theorem c_strings_Trim : compF Tryd.prog ⟨none, none⟩ Tryd.f59 = some r_strings_Trim := by kernel_rfl
/-- slices.insertionSortOrdered[string] -/
def r_slices_insertionSortOrdered_string : RF :=
  ⟨49, [], (.seq (.reg [⟨(some 8), none, (.mv (.t 1))⟩, ⟨(some 9), none, (.bin .add (.t 8) (.k (.int .i64 1)))⟩, ⟨(some 6), none, (.mv (.t 9))⟩]) (.block 0 (.loop (.seq (.seq 
  (.reg [⟨(some 10), none, (.mv (.t 6))⟩, ⟨(some 11), none, (.mv (.t 2))⟩, ⟨(some 12), none, (.bin .lss (.t 10) (.t 11))⟩]) (.cond (.t 12) .skip (.exit 0))) (.seq (.block 1 (.seq 
  (.reg [⟨(some 15), none, (.mv (.t 6))⟩, ⟨(some 7), none, (.mv (.t 15))⟩]) (.block 2 (.loop (.seq (.seq (.drw 0 [⟨⟨(some 16), none, (.mv (.t 7))⟩, .pure, [], []⟩, 
  ⟨⟨(some 17), none, (.mv (.t 1))⟩, .pure, [], []⟩, ⟨⟨(some 18), none, (.bin .gtr (.t 16) (.t 17))⟩, .pure, [], []⟩, ⟨⟨(some 19), none, (.mv (.t 18))⟩, .pure, [], []⟩, 
  ⟨⟨(some 20), (some (19, true)), (.mv (.t 0))⟩, .pure, [], []⟩, ⟨⟨(some 21), (some (19, true)), (.mv (.t 7))⟩, .pure, [], []⟩, 
  ⟨⟨(some 22), (some (19, true)), (.ixa 1 (.t 20) (.t 21))⟩, .pure, [], []⟩, ⟨⟨(some 23), (some (19, true)), (.ld none (.t 22))⟩, .ld, [], []⟩, 
  ⟨⟨(some 24), (some (19, true)), (.mv (.t 0))⟩, .pure, [7], []⟩, ⟨⟨(some 25), (some (19, true)), (.mv (.t 7))⟩, .pure, [7], []⟩, 
  ⟨⟨(some 26), (some (19, true)), (.bin .sub (.t 25) (.k (.int .i64 1)))⟩, .pure, [7], []⟩, ⟨⟨(some 27), (some (19, true)), (.ixa 1 (.t 24) (.t 26))⟩, .pure, [7], []⟩, 
  ⟨⟨(some 28), (some (19, true)), (.ld none (.t 27))⟩, .ld, [], []⟩, ⟨⟨(some 29), (some (19, true)), (.call f_cmp_Less_string [(.t 23), (.t 28)])⟩, .eff, [], []⟩, 
  ⟨⟨(some 30), none, (.pick (.t 19) (.t 29) (.k (.bool false)))⟩, .pure, [], []⟩]) (.cond (.t 30) .skip (.exit 2))) (.seq (.block 3 
  (.drw 0 [⟨⟨(some 33), none, (.mv (.t 0))⟩, .pure, [], []⟩, ⟨⟨(some 34), none, (.mv (.t 7))⟩, .pure, [], []⟩, ⟨⟨(some 35), none, (.mv (.t 0))⟩, .pure, [], []⟩, 
  ⟨⟨(some 36), none, (.mv (.t 7))⟩, .pure, [], []⟩, ⟨⟨(some 37), none, (.bin .sub (.t 36) (.k (.int .i64 1)))⟩, .pure, [], []⟩, ⟨⟨(some 38), none, (.mv (.t 0))⟩, .pure, [], []⟩, 
  ⟨⟨(some 39), none, (.mv (.t 7))⟩, .pure, [], []⟩, ⟨⟨(some 40), none, (.bin .sub (.t 39) (.k (.int .i64 1)))⟩, .pure, [], []⟩, 
  ⟨⟨(some 41), none, (.ixa 1 (.t 38) (.t 40))⟩, .pure, [], []⟩, ⟨⟨(some 42), none, (.ld none (.t 41))⟩, .ld, [], []⟩, ⟨⟨(some 43), none, (.mv (.t 0))⟩, .pure, [9], []⟩, 
  ⟨⟨(some 44), none, (.mv (.t 7))⟩, .pure, [9], []⟩, ⟨⟨(some 45), none, (.ixa 1 (.t 43) (.t 44))⟩, .pure, [9], []⟩, ⟨⟨(some 46), none, (.ld none (.t 45))⟩, .ld, [], []⟩, 
  ⟨⟨(some 47), none, (.ixa 1 (.t 33) (.t 34))⟩, .pure, [], []⟩, ⟨⟨none, none, (.st none (.t 47) (.t 42))⟩, .eff, [], []⟩, 
  ⟨⟨(some 48), none, (.ixa 1 (.t 35) (.t 37))⟩, .pure, [], []⟩, ⟨⟨none, none, (.st none (.t 48) (.t 46))⟩, .eff, [], []⟩])) (.reg [⟨(some 31), none, (.mv (.t 7))⟩, 
  ⟨(some 32), none, (.bin .sub (.t 31) (.k (.int .i64 1)))⟩, ⟨(some 7), none, (.mv (.t 32))⟩]))))))) (.reg [⟨(some 13), none, (.mv (.t 6))⟩, 
  ⟨(some 14), none, (.bin .add (.t 13) (.k (.int .i64 1)))⟩, ⟨(some 6), none, (.mv (.t 14))⟩]))))))⟩
theorem c_slices_insertionSortOrdered_string : compF Tryd.prog ⟨none, none⟩ Tryd.f60 = some r_slices_insertionSortOrdered_string := by kernel_rfl
/-- slices.heapSortOrdered[string] -/
def r_slices_heapSortOrdered_string : RF :=
  ⟨56, [], (.seq (.reg [⟨(some 11), none, (.mv (.t 1))⟩, ⟨(some 6), none, (.mv (.t 11))⟩]) (.seq (.reg [⟨(some 7), none, (.mv (.k (.int .i64 0)))⟩]) (.seq 
  (.reg [⟨(some 12), none, (.mv (.t 2))⟩, ⟨(some 13), none, (.mv (.t 1))⟩, ⟨(some 14), none, (.bin .sub (.t 12) (.t 13))⟩, ⟨(some 8), none, (.mv (.t 14))⟩]) (.seq (.seq 
  (.reg [⟨(some 15), none, (.mv (.t 8))⟩, ⟨(some 16), none, (.bin .sub (.t 15) (.k (.int .i64 1)))⟩, ⟨(some 17), none, (.bin .quo (.t 16) (.k (.int .i64 2)))⟩, 
  ⟨(some 9), none, (.mv (.t 17))⟩]) (.block 0 (.loop (.seq (.seq (.reg [⟨(some 18), none, (.mv (.t 9))⟩, ⟨(some 19), none, (.bin .geq (.t 18) (.k (.int .i64 0)))⟩]) 
  (.cond (.t 19) .skip (.exit 0))) (.seq (.block 1 (.reg [⟨(some 22), none, (.mv (.t 0))⟩, ⟨(some 23), none, (.mv (.t 9))⟩, ⟨(some 24), none, (.mv (.t 8))⟩, 
  ⟨(some 25), none, (.mv (.t 6))⟩, ⟨(some 26), none, (.call f_slices_siftDownOrdered_string [(.t 22), (.t 23), (.t 24), (.t 25)])⟩])) (.reg [⟨(some 20), none, (.mv (.t 9))⟩, 
  ⟨(some 21), none, (.bin .sub (.t 20) (.k (.int .i64 1)))⟩, ⟨(some 9), none, (.mv (.t 21))⟩])))))) (.seq (.reg [⟨(some 27), none, (.mv (.t 8))⟩, 
  ⟨(some 28), none, (.bin .sub (.t 27) (.k (.int .i64 1)))⟩, ⟨(some 10), none, (.mv (.t 28))⟩]) (.block 2 (.loop (.seq (.seq (.reg [⟨(some 29), none, (.mv (.t 10))⟩, 
  ⟨(some 30), none, (.bin .geq (.t 29) (.k (.int .i64 0)))⟩]) (.cond (.t 30) .skip (.exit 2))) (.seq (.block 3 (.seq (.drw 0 [⟨⟨(some 33), none, (.mv (.t 0))⟩, .pure, [], []⟩, 
  ⟨⟨(some 34), none, (.mv (.t 6))⟩, .pure, [], []⟩, ⟨⟨(some 35), none, (.mv (.t 0))⟩, .pure, [], []⟩, ⟨⟨(some 36), none, (.mv (.t 6))⟩, .pure, [], []⟩, 
  ⟨⟨(some 37), none, (.mv (.t 10))⟩, .pure, [], []⟩, ⟨⟨(some 38), none, (.bin .add (.t 36) (.t 37))⟩, .pure, [], []⟩, ⟨⟨(some 39), none, (.mv (.t 0))⟩, .pure, [], []⟩, 
  ⟨⟨(some 40), none, (.mv (.t 6))⟩, .pure, [], []⟩, ⟨⟨(some 41), none, (.mv (.t 10))⟩, .pure, [], []⟩, ⟨⟨(some 42), none, (.bin .add (.t 40) (.t 41))⟩, .pure, [], []⟩, 
  ⟨⟨(some 43), none, (.ixa 1 (.t 39) (.t 42))⟩, .pure, [], []⟩, ⟨⟨(some 44), none, (.ld none (.t 43))⟩, .ld, [], []⟩, ⟨⟨(some 45), none, (.mv (.t 0))⟩, .pure, [11], []⟩, 
  ⟨⟨(some 46), none, (.mv (.t 6))⟩, .pure, [11], []⟩, ⟨⟨(some 47), none, (.ixa 1 (.t 45) (.t 46))⟩, .pure, [11], []⟩, ⟨⟨(some 48), none, (.ld none (.t 47))⟩, .ld, [], []⟩, 
  ⟨⟨(some 49), none, (.ixa 1 (.t 33) (.t 34))⟩, .pure, [], []⟩, ⟨⟨none, none, (.st none (.t 49) (.t 44))⟩, .eff, [], []⟩, 
  ⟨⟨(some 50), none, (.ixa 1 (.t 35) (.t 38))⟩, .pure, [], []⟩, ⟨⟨none, none, (.st none (.t 50) (.t 48))⟩, .eff, [], []⟩]) (.reg [⟨(some 51), none, (.mv (.t 0))⟩, 
  ⟨(some 52), none, (.mv (.t 7))⟩, ⟨(some 53), none, (.mv (.t 10))⟩, ⟨(some 54), none, (.mv (.t 6))⟩, 
  ⟨(some 55), none, (.call f_slices_siftDownOrdered_string [(.t 51), (.t 52), (.t 53), (.t 54)])⟩]))) (.reg [⟨(some 31), none, (.mv (.t 10))⟩, 
  ⟨(some 32), none, (.bin .sub (.t 31) (.k (.int .i64 1)))⟩, ⟨(some 10), none, (.mv (.t 32))⟩]))))))))))⟩
theorem c_slices_heapSortOrdered_string : compF Tryd.prog ⟨none, none⟩ Tryd.f61 = some r_slices_heapSortOrdered_string := by kernel_rfl
/-- slices.breakPatternsOrdered[string] -/
def r_slices_breakPatternsOrdered_string : RF :=
  ⟨65, [], (.seq (.reg [⟨(some 11), none, (.mv (.t 2))⟩, ⟨(some 12), none, (.mv (.t 1))⟩, ⟨(some 13), none, (.bin .sub (.t 11) (.t 12))⟩, ⟨(some 6), none, (.mv (.t 13))⟩]) (.seq 
  (.reg [⟨(some 14), none, (.mv (.t 6))⟩, ⟨(some 15), none, (.bin .geq (.t 14) (.k (.int .i64 8)))⟩]) (.cond (.t 15) (.seq (.reg [⟨(some 16), none, (.mv (.t 6))⟩, 
  ⟨(some 17), none, (.cvi .u64 (.t 16))⟩, ⟨(some 7), none, (.new [(.int .u64 0)])⟩, ⟨none, none, (.st none (.t 7) (.t 17))⟩]) (.seq (.reg [⟨(some 18), none, (.mv (.t 6))⟩, 
  ⟨(some 19), none, (.call f_slices_nextPowerOfTwo [(.t 18)])⟩, ⟨(some 8), none, (.mv (.t 19))⟩]) (.seq (.reg [⟨(some 20), none, (.mv (.t 1))⟩, ⟨(some 21), none, (.mv (.t 6))⟩, 
  ⟨(some 22), none, (.bin .quo (.t 21) (.k (.int .i64 4)))⟩, ⟨(some 23), none, (.bin .mul (.t 22) (.k (.int .i64 2)))⟩, ⟨(some 24), none, (.bin .add (.t 20) (.t 23))⟩, 
  ⟨(some 25), none, (.bin .sub (.t 24) (.k (.int .i64 1)))⟩, ⟨(some 9), none, (.mv (.t 25))⟩]) (.block 0 (.loop (.seq (.seq (.reg [⟨(some 26), none, (.mv (.t 9))⟩, 
  ⟨(some 27), none, (.mv (.t 1))⟩, ⟨(some 28), none, (.mv (.t 6))⟩, ⟨(some 29), none, (.bin .quo (.t 28) (.k (.int .i64 4)))⟩, 
  ⟨(some 30), none, (.bin .mul (.t 29) (.k (.int .i64 2)))⟩, ⟨(some 31), none, (.bin .add (.t 27) (.t 30))⟩, ⟨(some 32), none, (.bin .add (.t 31) (.k (.int .i64 1)))⟩, 
  ⟨(some 33), none, (.bin .leq (.t 26) (.t 32))⟩]) (.cond (.t 33) .skip (.exit 0))) (.seq (.block 1 (.seq (.reg [⟨(some 36), none, (.call f_slices_xorshift_Next [(.t 7)])⟩, 
  ⟨(some 37), none, (.mv (.t 8))⟩, ⟨(some 38), none, (.bin .sub (.t 37) (.k (.int .u64 1)))⟩, ⟨(some 39), none, (.bin .and (.t 36) (.t 38))⟩, ⟨(some 40), none, (.cvi .i64 (.t 39))⟩, 
  ⟨(some 10), none, (.mv (.t 40))⟩]) (.seq (.seq (.reg [⟨(some 41), none, (.mv (.t 10))⟩, ⟨(some 42), none, (.mv (.t 6))⟩, ⟨(some 43), none, (.bin .geq (.t 41) (.t 42))⟩]) 
  (.cond (.t 43) (.reg [⟨(some 44), none, (.mv (.t 10))⟩, ⟨(some 45), none, (.mv (.t 6))⟩, ⟨(some 46), none, (.bin .sub (.t 44) (.t 45))⟩, ⟨(some 10), none, (.mv (.t 46))⟩]) .skip)) 
  (.drw 0 [⟨⟨(some 47), none, (.mv (.t 0))⟩, .pure, [], []⟩, ⟨⟨(some 48), none, (.mv (.t 9))⟩, .pure, [], []⟩, ⟨⟨(some 49), none, (.mv (.t 0))⟩, .pure, [], []⟩, 
  ⟨⟨(some 50), none, (.mv (.t 1))⟩, .pure, [], []⟩, ⟨⟨(some 51), none, (.mv (.t 10))⟩, .pure, [], []⟩, ⟨⟨(some 52), none, (.bin .add (.t 50) (.t 51))⟩, .pure, [], []⟩, 
  ⟨⟨(some 53), none, (.mv (.t 0))⟩, .pure, [], []⟩, ⟨⟨(some 54), none, (.mv (.t 1))⟩, .pure, [], []⟩, ⟨⟨(some 55), none, (.mv (.t 10))⟩, .pure, [], []⟩, 
  ⟨⟨(some 56), none, (.bin .add (.t 54) (.t 55))⟩, .pure, [], []⟩, ⟨⟨(some 57), none, (.ixa 1 (.t 53) (.t 56))⟩, .pure, [], []⟩, 
  ⟨⟨(some 58), none, (.ld none (.t 57))⟩, .ld, [], []⟩, ⟨⟨(some 59), none, (.mv (.t 0))⟩, .pure, [11], []⟩, ⟨⟨(some 60), none, (.mv (.t 9))⟩, .pure, [11], []⟩, 
  ⟨⟨(some 61), none, (.ixa 1 (.t 59) (.t 60))⟩, .pure, [11], []⟩, ⟨⟨(some 62), none, (.ld none (.t 61))⟩, .ld, [], []⟩, ⟨⟨(some 63), none, (.ixa 1 (.t 47) (.t 48))⟩, .pure, [], []⟩, 
  ⟨⟨none, none, (.st none (.t 63) (.t 58))⟩, .eff, [], []⟩, ⟨⟨(some 64), none, (.ixa 1 (.t 49) (.t 52))⟩, .pure, [], []⟩, 
  ⟨⟨none, none, (.st none (.t 64) (.t 62))⟩, .eff, [], []⟩])))) (.reg [⟨(some 34), none, (.mv (.t 9))⟩, ⟨(some 35), none, (.bin .add (.t 34) (.k (.int .i64 1)))⟩, 
  ⟨(some 9), none, (.mv (.t 35))⟩])))))))) .skip)))⟩
theorem c_slices_breakPatternsOrdered_string : compF Tryd.prog ⟨none, none⟩ Tryd.f62 = some r_slices_breakPatternsOrdered_string := by kernel_rfl
/-- slices.choosePivotOrdered[string] -/
def r_slices_choosePivotOrdered_string : RF :=
  ⟨57, [(.tmp 6), (.tmp 7)], (.seq (.reg [⟨(some 6), none, (.mv (.k (.int .i64 0)))⟩, ⟨(some 7), none, (.mv (.k (.int .i64 0)))⟩]) (.seq (.reg [⟨(some 13), none, (.mv (.t 2))⟩, 
  ⟨(some 14), none, (.mv (.t 1))⟩, ⟨(some 15), none, (.bin .sub (.t 13) (.t 14))⟩, ⟨(some 8), none, (.mv (.t 15))⟩]) (.seq (.reg [⟨(some 9), none, (.new [(.int .i64 0)])⟩]) (.seq 
  (.reg [⟨(some 16), none, (.mv (.t 1))⟩, ⟨(some 17), none, (.mv (.t 8))⟩, ⟨(some 18), none, (.bin .quo (.t 17) (.k (.int .i64 4)))⟩, 
  ⟨(some 19), none, (.bin .mul (.t 18) (.k (.int .i64 1)))⟩, ⟨(some 20), none, (.bin .add (.t 16) (.t 19))⟩, ⟨(some 10), none, (.mv (.t 20))⟩]) (.seq 
  (.reg [⟨(some 21), none, (.mv (.t 1))⟩, ⟨(some 22), none, (.mv (.t 8))⟩, ⟨(some 23), none, (.bin .quo (.t 22) (.k (.int .i64 4)))⟩, 
  ⟨(some 24), none, (.bin .mul (.t 23) (.k (.int .i64 2)))⟩, ⟨(some 25), none, (.bin .add (.t 21) (.t 24))⟩, ⟨(some 11), none, (.mv (.t 25))⟩]) (.seq 
  (.reg [⟨(some 26), none, (.mv (.t 1))⟩, ⟨(some 27), none, (.mv (.t 8))⟩, ⟨(some 28), none, (.bin .quo (.t 27) (.k (.int .i64 4)))⟩, 
  ⟨(some 29), none, (.bin .mul (.t 28) (.k (.int .i64 3)))⟩, ⟨(some 30), none, (.bin .add (.t 26) (.t 29))⟩, ⟨(some 12), none, (.mv (.t 30))⟩]) (.seq (.seq 
  (.reg [⟨(some 31), none, (.mv (.t 8))⟩, ⟨(some 32), none, (.bin .geq (.t 31) (.k (.int .i64 8)))⟩]) (.cond (.t 32) (.seq (.seq (.reg [⟨(some 33), none, (.mv (.t 8))⟩, 
  ⟨(some 34), none, (.bin .geq (.t 33) (.k (.int .i64 50)))⟩]) (.cond (.t 34) (.seq (.reg [⟨(some 35), none, (.mv (.t 0))⟩, ⟨(some 36), none, (.mv (.t 10))⟩, 
  ⟨(some 37), none, (.call f_slices_medianAdjacentOrdered_string [(.t 35), (.t 36), (.t 9)])⟩, ⟨(some 10), none, (.mv (.t 37))⟩]) (.seq (.reg [⟨(some 38), none, (.mv (.t 0))⟩, 
  ⟨(some 39), none, (.mv (.t 11))⟩, ⟨(some 40), none, (.call f_slices_medianAdjacentOrdered_string [(.t 38), (.t 39), (.t 9)])⟩, ⟨(some 11), none, (.mv (.t 40))⟩]) 
  (.reg [⟨(some 41), none, (.mv (.t 0))⟩, ⟨(some 42), none, (.mv (.t 12))⟩, ⟨(some 43), none, (.call f_slices_medianAdjacentOrdered_string [(.t 41), (.t 42), (.t 9)])⟩, 
  ⟨(some 12), none, (.mv (.t 43))⟩]))) .skip)) (.reg [⟨(some 44), none, (.mv (.t 0))⟩, ⟨(some 45), none, (.mv (.t 10))⟩, ⟨(some 46), none, (.mv (.t 11))⟩, 
  ⟨(some 47), none, (.mv (.t 12))⟩, ⟨(some 48), none, (.call f_slices_medianOrdered_string [(.t 44), (.t 45), (.t 46), (.t 47), (.t 9)])⟩, 
  ⟨(some 11), none, (.mv (.t 48))⟩])) .skip)) (.seq (.reg [⟨(some 49), none, (.ld none (.t 9))⟩]) (.block 0 (.seq 
  (.reg [⟨(some 52), none, (.eq false .i (.t 49) (.k (.int .i64 0)))⟩, ⟨(some 51), none, (.mv (.t 52))⟩]) (.cond (.t 51) (.seq (.reg [⟨(some 53), none, (.mv (.t 11))⟩, 
  ⟨(some 6), none, (.mv (.t 53))⟩, ⟨(some 7), none, (.mv (.k (.int .i64 1)))⟩]) .ret) (.seq (.reg [⟨(some 55), none, (.eq false .i (.t 49) (.k (.int .i64 12)))⟩, 
  ⟨(some 54), none, (.mv (.t 55))⟩]) (.cond (.t 54) (.seq (.reg [⟨(some 56), none, (.mv (.t 11))⟩, ⟨(some 6), none, (.mv (.t 56))⟩, 
  ⟨(some 7), none, (.mv (.k (.int .i64 2)))⟩]) .ret) (.seq (.reg [⟨(some 50), none, (.mv (.t 11))⟩, ⟨(some 6), none, (.mv (.t 50))⟩, 
  ⟨(some 7), none, (.mv (.k (.int .i64 0)))⟩]) .ret))))))))))))))⟩
theorem c_slices_choosePivotOrdered_string : compF Tryd.prog ⟨none, none⟩ Tryd.f63 = some r_slices_choosePivotOrdered_string := by kernel_rfl
/-- slices.reverseRangeOrdered[string] -/
def r_slices_reverseRangeOrdered_string : RF :=
  ⟨32, [], (.seq (.reg [⟨(some 8), none, (.mv (.t 1))⟩, ⟨(some 6), none, (.mv (.t 8))⟩]) (.seq (.reg [⟨(some 9), none, (.mv (.t 2))⟩, 
  ⟨(some 10), none, (.bin .sub (.t 9) (.k (.int .i64 1)))⟩, ⟨(some 7), none, (.mv (.t 10))⟩]) (.block 0 (.loop (.seq (.seq (.reg [⟨(some 11), none, (.mv (.t 6))⟩, 
  ⟨(some 12), none, (.mv (.t 7))⟩, ⟨(some 13), none, (.bin .lss (.t 11) (.t 12))⟩]) (.cond (.t 13) .skip (.exit 0))) (.block 1 (.seq 
  (.drw 0 [⟨⟨(some 14), none, (.mv (.t 0))⟩, .pure, [], []⟩, ⟨⟨(some 15), none, (.mv (.t 6))⟩, .pure, [], []⟩, ⟨⟨(some 16), none, (.mv (.t 0))⟩, .pure, [], []⟩, 
  ⟨⟨(some 17), none, (.mv (.t 7))⟩, .pure, [], []⟩, ⟨⟨(some 18), none, (.mv (.t 0))⟩, .pure, [], []⟩, ⟨⟨(some 19), none, (.mv (.t 7))⟩, .pure, [], []⟩, 
  ⟨⟨(some 20), none, (.ixa 1 (.t 18) (.t 19))⟩, .pure, [], []⟩, ⟨⟨(some 21), none, (.ld none (.t 20))⟩, .ld, [], []⟩, ⟨⟨(some 22), none, (.mv (.t 0))⟩, .pure, [7], []⟩, 
  ⟨⟨(some 23), none, (.mv (.t 6))⟩, .pure, [7], []⟩, ⟨⟨(some 24), none, (.ixa 1 (.t 22) (.t 23))⟩, .pure, [7], []⟩, ⟨⟨(some 25), none, (.ld none (.t 24))⟩, .ld, [], []⟩, 
  ⟨⟨(some 26), none, (.ixa 1 (.t 14) (.t 15))⟩, .pure, [], []⟩, ⟨⟨none, none, (.st none (.t 26) (.t 21))⟩, .eff, [], []⟩, 
  ⟨⟨(some 27), none, (.ixa 1 (.t 16) (.t 17))⟩, .pure, [], []⟩, ⟨⟨none, none, (.st none (.t 27) (.t 25))⟩, .eff, [], []⟩]) (.seq (.reg [⟨(some 28), none, (.mv (.t 6))⟩, 
  ⟨(some 29), none, (.bin .add (.t 28) (.k (.int .i64 1)))⟩, ⟨(some 6), none, (.mv (.t 29))⟩]) (.reg [⟨(some 30), none, (.mv (.t 7))⟩, 
  ⟨(some 31), none, (.bin .sub (.t 30) (.k (.int .i64 1)))⟩, ⟨(some 7), none, (.mv (.t 31))⟩])))))))))⟩
theorem c_slices_reverseRangeOrdered_string : compF Tryd.prog ⟨none, none⟩ Tryd.f64 = some r_slices_reverseRangeOrdered_string := by kernel_rfl
/-- slices.partialInsertionSortOrdered[string] -/
def r_slices_partialInsertionSortOrdered_string : RF :=
  ⟨133, [(.tmp 6)], (.seq (.reg [⟨(some 6), none, (.mv (.k (.bool false)))⟩]) (.seq (.reg [⟨(some 11), none, (.mv (.t 1))⟩, 
  ⟨(some 12), none, (.bin .add (.t 11) (.k (.int .i64 1)))⟩, ⟨(some 7), none, (.mv (.t 12))⟩]) (.seq (.seq (.reg [⟨(some 8), none, (.mv (.k (.int .i64 0)))⟩]) (.block 0 (.loop (.seq 
  (.seq (.reg [⟨(some 13), none, (.mv (.t 8))⟩, ⟨(some 14), none, (.bin .lss (.t 13) (.k (.int .i64 5)))⟩]) (.cond (.t 14) .skip (.exit 0))) (.seq (.block 1 (.seq (.block 2 (.loop 
  (.seq (.seq (.drw 0 [⟨⟨(some 17), none, (.mv (.t 7))⟩, .pure, [], []⟩, ⟨⟨(some 18), none, (.mv (.t 2))⟩, .pure, [], []⟩, 
  ⟨⟨(some 19), none, (.bin .lss (.t 17) (.t 18))⟩, .pure, [], []⟩, ⟨⟨(some 20), none, (.mv (.t 19))⟩, .pure, [], []⟩, ⟨⟨(some 21), (some (20, true)), (.mv (.t 0))⟩, .pure, [], []⟩, 
  ⟨⟨(some 22), (some (20, true)), (.mv (.t 7))⟩, .pure, [], []⟩, ⟨⟨(some 23), (some (20, true)), (.ixa 1 (.t 21) (.t 22))⟩, .pure, [], []⟩, 
  ⟨⟨(some 24), (some (20, true)), (.ld none (.t 23))⟩, .ld, [], []⟩, ⟨⟨(some 25), (some (20, true)), (.mv (.t 0))⟩, .pure, [7], []⟩, 
  ⟨⟨(some 26), (some (20, true)), (.mv (.t 7))⟩, .pure, [7], []⟩, ⟨⟨(some 27), (some (20, true)), (.bin .sub (.t 26) (.k (.int .i64 1)))⟩, .pure, [7], []⟩, 
  ⟨⟨(some 28), (some (20, true)), (.ixa 1 (.t 25) (.t 27))⟩, .pure, [7], []⟩, ⟨⟨(some 29), (some (20, true)), (.ld none (.t 28))⟩, .ld, [], []⟩, 
  ⟨⟨(some 30), (some (20, true)), (.call f_cmp_Less_string [(.t 24), (.t 29)])⟩, .eff, [], []⟩, ⟨⟨(some 31), (some (20, true)), (.un .not (.t 30))⟩, .pure, [], []⟩, 
  ⟨⟨(some 32), none, (.pick (.t 20) (.t 31) (.k (.bool false)))⟩, .pure, [], []⟩]) (.cond (.t 32) .skip (.exit 2))) (.block 3 (.reg [⟨(some 33), none, (.mv (.t 7))⟩, 
  ⟨(some 34), none, (.bin .add (.t 33) (.k (.int .i64 1)))⟩, ⟨(some 7), none, (.mv (.t 34))⟩]))))) (.seq (.seq (.reg [⟨(some 35), none, (.mv (.t 7))⟩, 
  ⟨(some 36), none, (.mv (.t 2))⟩, ⟨(some 37), none, (.eq false .i (.t 35) (.t 36))⟩]) (.cond (.t 37) (.seq (.reg [⟨(some 6), none, (.mv (.k (.bool true)))⟩]) .ret) .skip)) (.seq 
  (.seq (.reg [⟨(some 38), none, (.mv (.t 2))⟩, ⟨(some 39), none, (.mv (.t 1))⟩, ⟨(some 40), none, (.bin .sub (.t 38) (.t 39))⟩, 
  ⟨(some 41), none, (.bin .lss (.t 40) (.k (.int .i64 50)))⟩]) (.cond (.t 41) (.seq (.reg [⟨(some 6), none, (.mv (.k (.bool false)))⟩]) .ret) .skip)) (.seq 
  (.drw 0 [⟨⟨(some 42), none, (.mv (.t 0))⟩, .pure, [], []⟩, ⟨⟨(some 43), none, (.mv (.t 7))⟩, .pure, [], []⟩, ⟨⟨(some 44), none, (.mv (.t 0))⟩, .pure, [], []⟩, 
  ⟨⟨(some 45), none, (.mv (.t 7))⟩, .pure, [], []⟩, ⟨⟨(some 46), none, (.bin .sub (.t 45) (.k (.int .i64 1)))⟩, .pure, [], []⟩, ⟨⟨(some 47), none, (.mv (.t 0))⟩, .pure, [], []⟩, 
  ⟨⟨(some 48), none, (.mv (.t 7))⟩, .pure, [], []⟩, ⟨⟨(some 49), none, (.bin .sub (.t 48) (.k (.int .i64 1)))⟩, .pure, [], []⟩, 
  ⟨⟨(some 50), none, (.ixa 1 (.t 47) (.t 49))⟩, .pure, [], []⟩, ⟨⟨(some 51), none, (.ld none (.t 50))⟩, .ld, [], []⟩, ⟨⟨(some 52), none, (.mv (.t 0))⟩, .pure, [9], []⟩, 
  ⟨⟨(some 53), none, (.mv (.t 7))⟩, .pure, [9], []⟩, ⟨⟨(some 54), none, (.ixa 1 (.t 52) (.t 53))⟩, .pure, [9], []⟩, ⟨⟨(some 55), none, (.ld none (.t 54))⟩, .ld, [], []⟩, 
  ⟨⟨(some 56), none, (.ixa 1 (.t 42) (.t 43))⟩, .pure, [], []⟩, ⟨⟨none, none, (.st none (.t 56) (.t 51))⟩, .eff, [], []⟩, 
  ⟨⟨(some 57), none, (.ixa 1 (.t 44) (.t 46))⟩, .pure, [], []⟩, ⟨⟨none, none, (.st none (.t 57) (.t 55))⟩, .eff, [], []⟩]) (.seq (.seq (.reg [⟨(some 58), none, (.mv (.t 7))⟩, 
  ⟨(some 59), none, (.mv (.t 1))⟩, ⟨(some 60), none, (.bin .sub (.t 58) (.t 59))⟩, ⟨(some 61), none, (.bin .geq (.t 60) (.k (.int .i64 2)))⟩]) (.cond (.t 61) (.seq 
  (.reg [⟨(some 62), none, (.mv (.t 7))⟩, ⟨(some 63), none, (.bin .sub (.t 62) (.k (.int .i64 1)))⟩, ⟨(some 9), none, (.mv (.t 63))⟩]) (.block 4 (.loop (.seq (.seq 
  (.reg [⟨(some 64), none, (.mv (.t 9))⟩, ⟨(some 65), none, (.bin .geq (.t 64) (.k (.int .i64 1)))⟩]) (.cond (.t 65) .skip (.exit 4))) (.seq (.block 5 (.seq (.seq 
  (.drw 0 [⟨⟨(some 68), none, (.mv (.t 0))⟩, .pure, [], []⟩, ⟨⟨(some 69), none, (.mv (.t 9))⟩, .pure, [], []⟩, ⟨⟨(some 70), none, (.ixa 1 (.t 68) (.t 69))⟩, .pure, [], []⟩, 
  ⟨⟨(some 71), none, (.ld none (.t 70))⟩, .ld, [], []⟩, ⟨⟨(some 72), none, (.mv (.t 0))⟩, .pure, [3], []⟩, ⟨⟨(some 73), none, (.mv (.t 9))⟩, .pure, [3], []⟩, 
  ⟨⟨(some 74), none, (.bin .sub (.t 73) (.k (.int .i64 1)))⟩, .pure, [3], []⟩, ⟨⟨(some 75), none, (.ixa 1 (.t 72) (.t 74))⟩, .pure, [3], []⟩, 
  ⟨⟨(some 76), none, (.ld none (.t 75))⟩, .ld, [], []⟩, ⟨⟨(some 77), none, (.call f_cmp_Less_string [(.t 71), (.t 76)])⟩, .eff, [], []⟩, 
  ⟨⟨(some 78), none, (.un .not (.t 77))⟩, .pure, [], []⟩]) (.cond (.t 78) (.exit 4) .skip)) (.drw 0 [⟨⟨(some 79), none, (.mv (.t 0))⟩, .pure, [], []⟩, 
  ⟨⟨(some 80), none, (.mv (.t 9))⟩, .pure, [], []⟩, ⟨⟨(some 81), none, (.mv (.t 0))⟩, .pure, [], []⟩, ⟨⟨(some 82), none, (.mv (.t 9))⟩, .pure, [], []⟩, 
  ⟨⟨(some 83), none, (.bin .sub (.t 82) (.k (.int .i64 1)))⟩, .pure, [], []⟩, ⟨⟨(some 84), none, (.mv (.t 0))⟩, .pure, [], []⟩, ⟨⟨(some 85), none, (.mv (.t 9))⟩, .pure, [], []⟩, 
  ⟨⟨(some 86), none, (.bin .sub (.t 85) (.k (.int .i64 1)))⟩, .pure, [], []⟩, ⟨⟨(some 87), none, (.ixa 1 (.t 84) (.t 86))⟩, .pure, [], []⟩, 
  ⟨⟨(some 88), none, (.ld none (.t 87))⟩, .ld, [], []⟩, ⟨⟨(some 89), none, (.mv (.t 0))⟩, .pure, [9], []⟩, ⟨⟨(some 90), none, (.mv (.t 9))⟩, .pure, [9], []⟩, 
  ⟨⟨(some 91), none, (.ixa 1 (.t 89) (.t 90))⟩, .pure, [9], []⟩, ⟨⟨(some 92), none, (.ld none (.t 91))⟩, .ld, [], []⟩, ⟨⟨(some 93), none, (.ixa 1 (.t 79) (.t 80))⟩, .pure, [], []⟩, 
  ⟨⟨none, none, (.st none (.t 93) (.t 88))⟩, .eff, [], []⟩, ⟨⟨(some 94), none, (.ixa 1 (.t 81) (.t 83))⟩, .pure, [], []⟩, 
  ⟨⟨none, none, (.st none (.t 94) (.t 92))⟩, .eff, [], []⟩]))) (.reg [⟨(some 66), none, (.mv (.t 9))⟩, ⟨(some 67), none, (.bin .sub (.t 66) (.k (.int .i64 1)))⟩, 
  ⟨(some 9), none, (.mv (.t 67))⟩])))))) .skip)) (.seq (.reg [⟨(some 95), none, (.mv (.t 2))⟩, ⟨(some 96), none, (.mv (.t 7))⟩, ⟨(some 97), none, (.bin .sub (.t 95) (.t 96))⟩, 
  ⟨(some 98), none, (.bin .geq (.t 97) (.k (.int .i64 2)))⟩]) (.cond (.t 98) (.seq (.reg [⟨(some 99), none, (.mv (.t 7))⟩, 
  ⟨(some 100), none, (.bin .add (.t 99) (.k (.int .i64 1)))⟩, ⟨(some 10), none, (.mv (.t 100))⟩]) (.block 6 (.loop (.seq (.seq (.reg [⟨(some 101), none, (.mv (.t 10))⟩, 
  ⟨(some 102), none, (.mv (.t 2))⟩, ⟨(some 103), none, (.bin .lss (.t 101) (.t 102))⟩]) (.cond (.t 103) .skip (.exit 6))) (.seq (.block 7 (.seq (.seq 
  (.drw 0 [⟨⟨(some 106), none, (.mv (.t 0))⟩, .pure, [], []⟩, ⟨⟨(some 107), none, (.mv (.t 10))⟩, .pure, [], []⟩, ⟨⟨(some 108), none, (.ixa 1 (.t 106) (.t 107))⟩, .pure, [], []⟩, 
  ⟨⟨(some 109), none, (.ld none (.t 108))⟩, .ld, [], []⟩, ⟨⟨(some 110), none, (.mv (.t 0))⟩, .pure, [3], []⟩, ⟨⟨(some 111), none, (.mv (.t 10))⟩, .pure, [3], []⟩, 
  ⟨⟨(some 112), none, (.bin .sub (.t 111) (.k (.int .i64 1)))⟩, .pure, [3], []⟩, ⟨⟨(some 113), none, (.ixa 1 (.t 110) (.t 112))⟩, .pure, [3], []⟩, 
  ⟨⟨(some 114), none, (.ld none (.t 113))⟩, .ld, [], []⟩, ⟨⟨(some 115), none, (.call f_cmp_Less_string [(.t 109), (.t 114)])⟩, .eff, [], []⟩, 
  ⟨⟨(some 116), none, (.un .not (.t 115))⟩, .pure, [], []⟩]) (.cond (.t 116) (.exit 6) .skip)) (.drw 0 [⟨⟨(some 117), none, (.mv (.t 0))⟩, .pure, [], []⟩, 
  ⟨⟨(some 118), none, (.mv (.t 10))⟩, .pure, [], []⟩, ⟨⟨(some 119), none, (.mv (.t 0))⟩, .pure, [], []⟩, ⟨⟨(some 120), none, (.mv (.t 10))⟩, .pure, [], []⟩, 
  ⟨⟨(some 121), none, (.bin .sub (.t 120) (.k (.int .i64 1)))⟩, .pure, [], []⟩, ⟨⟨(some 122), none, (.mv (.t 0))⟩, .pure, [], []⟩, 
  ⟨⟨(some 123), none, (.mv (.t 10))⟩, .pure, [], []⟩, ⟨⟨(some 124), none, (.bin .sub (.t 123) (.k (.int .i64 1)))⟩, .pure, [], []⟩, 
  ⟨⟨(some 125), none, (.ixa 1 (.t 122) (.t 124))⟩, .pure, [], []⟩, ⟨⟨(some 126), none, (.ld none (.t 125))⟩, .ld, [], []⟩, ⟨⟨(some 127), none, (.mv (.t 0))⟩, .pure, [9], []⟩, 
  ⟨⟨(some 128), none, (.mv (.t 10))⟩, .pure, [9], []⟩, ⟨⟨(some 129), none, (.ixa 1 (.t 127) (.t 128))⟩, .pure, [9], []⟩, ⟨⟨(some 130), none, (.ld none (.t 129))⟩, .ld, [], []⟩, 
  ⟨⟨(some 131), none, (.ixa 1 (.t 117) (.t 118))⟩, .pure, [], []⟩, ⟨⟨none, none, (.st none (.t 131) (.t 126))⟩, .eff, [], []⟩, 
  ⟨⟨(some 132), none, (.ixa 1 (.t 119) (.t 121))⟩, .pure, [], []⟩, ⟨⟨none, none, (.st none (.t 132) (.t 130))⟩, .eff, [], []⟩]))) (.reg [⟨(some 104), none, (.mv (.t 10))⟩, 
  ⟨(some 105), none, (.bin .add (.t 104) (.k (.int .i64 1)))⟩, ⟨(some 10), none, (.mv (.t 105))⟩])))))) .skip)))))))) (.reg [⟨(some 15), none, (.mv (.t 8))⟩, 
  ⟨(some 16), none, (.bin .add (.t 15) (.k (.int .i64 1)))⟩, ⟨(some 8), none, (.mv (.t 16))⟩])))))) (.seq (.reg [⟨(some 6), none, (.mv (.k (.bool false)))⟩]) .ret))))⟩
theorem c_slices_partialInsertionSortOrdered_string : compF Tryd.prog ⟨none, none⟩ Tryd.f65 = some r_slices_partialInsertionSortOrdered_string := by kernel_rfl
/-- cmp.Less[string] -/
def r_cmp_Less_string : RF :=
  ⟨17, [(.tmp 4)], (.seq (.reg [⟨(some 4), none, (.mv (.k (.bool false)))⟩]) (.seq (.reg [⟨(some 5), none, (.mv (.t 0))⟩, ⟨(some 6), none, (.call f_cmp_isNaN_string [(.t 5)])⟩, 
  ⟨(some 7), none, (.mv (.t 6))⟩, ⟨(some 8), (some (7, true)), (.mv (.t 1))⟩, ⟨(some 9), (some (7, true)), (.call f_cmp_isNaN_string [(.t 8)])⟩, 
  ⟨(some 10), (some (7, true)), (.un .not (.t 9))⟩, ⟨(some 11), none, (.pick (.t 7) (.t 10) (.k (.bool false)))⟩, ⟨(some 12), none, (.mv (.t 11))⟩, 
  ⟨(some 13), (some (12, false)), (.mv (.t 0))⟩, ⟨(some 14), (some (12, false)), (.mv (.t 1))⟩, ⟨(some 15), (some (12, false)), (.bin .lss (.t 13) (.t 14))⟩, 
  ⟨(some 16), none, (.pick (.t 12) (.k (.bool true)) (.t 15))⟩, ⟨(some 4), none, (.mv (.t 16))⟩]) .ret))⟩
theorem c_cmp_Less_string : compF Tryd.prog ⟨none, none⟩ Tryd.f66 = some r_cmp_Less_string := by kernel_rfl
/-- slices.partitionEqualOrdered[string] -/
def r_slices_partitionEqualOrdered_string : RF :=
  ⟨84, [(.tmp 8)], (.seq (.reg [⟨(some 8), none, (.mv (.k (.int .i64 0)))⟩]) (.seq (.drw 0 [⟨⟨(some 11), none, (.mv (.t 0))⟩, .pure, [], []⟩, 
  ⟨⟨(some 12), none, (.mv (.t 1))⟩, .pure, [], []⟩, ⟨⟨(some 13), none, (.mv (.t 0))⟩, .pure, [], []⟩, ⟨⟨(some 14), none, (.mv (.t 3))⟩, .pure, [], []⟩, 
  ⟨⟨(some 15), none, (.mv (.t 0))⟩, .pure, [], []⟩, ⟨⟨(some 16), none, (.mv (.t 3))⟩, .pure, [], []⟩, ⟨⟨(some 17), none, (.ixa 1 (.t 15) (.t 16))⟩, .pure, [], []⟩, 
  ⟨⟨(some 18), none, (.ld none (.t 17))⟩, .ld, [], []⟩, ⟨⟨(some 19), none, (.mv (.t 0))⟩, .pure, [7], []⟩, ⟨⟨(some 20), none, (.mv (.t 1))⟩, .pure, [7], []⟩, 
  ⟨⟨(some 21), none, (.ixa 1 (.t 19) (.t 20))⟩, .pure, [7], []⟩, ⟨⟨(some 22), none, (.ld none (.t 21))⟩, .ld, [], []⟩, ⟨⟨(some 23), none, (.ixa 1 (.t 11) (.t 12))⟩, .pure, [], []⟩, 
  ⟨⟨none, none, (.st none (.t 23) (.t 18))⟩, .eff, [], []⟩, ⟨⟨(some 24), none, (.ixa 1 (.t 13) (.t 14))⟩, .pure, [], []⟩, ⟨⟨none, none, (.st none (.t 24) (.t 22))⟩, .eff, [], []⟩]) 
  (.seq (.reg [⟨(some 25), none, (.mv (.t 1))⟩, ⟨(some 26), none, (.bin .add (.t 25) (.k (.int .i64 1)))⟩, ⟨(some 27), none, (.mv (.t 2))⟩, 
  ⟨(some 28), none, (.bin .sub (.t 27) (.k (.int .i64 1)))⟩, ⟨(some 9), none, (.mv (.t 26))⟩, ⟨(some 10), none, (.mv (.t 28))⟩]) (.seq (.block 0 (.loop (.block 1 (.seq (.block 2 
  (.loop (.seq (.seq (.drw 0 [⟨⟨(some 29), none, (.mv (.t 9))⟩, .pure, [], []⟩, ⟨⟨(some 30), none, (.mv (.t 10))⟩, .pure, [], []⟩, 
  ⟨⟨(some 31), none, (.bin .leq (.t 29) (.t 30))⟩, .pure, [], []⟩, ⟨⟨(some 32), none, (.mv (.t 31))⟩, .pure, [], []⟩, ⟨⟨(some 33), (some (32, true)), (.mv (.t 0))⟩, .pure, [], []⟩, 
  ⟨⟨(some 34), (some (32, true)), (.mv (.t 1))⟩, .pure, [], []⟩, ⟨⟨(some 35), (some (32, true)), (.ixa 1 (.t 33) (.t 34))⟩, .pure, [], []⟩, 
  ⟨⟨(some 36), (some (32, true)), (.ld none (.t 35))⟩, .ld, [], []⟩, ⟨⟨(some 37), (some (32, true)), (.mv (.t 0))⟩, .pure, [7], []⟩, 
  ⟨⟨(some 38), (some (32, true)), (.mv (.t 9))⟩, .pure, [7], []⟩, ⟨⟨(some 39), (some (32, true)), (.ixa 1 (.t 37) (.t 38))⟩, .pure, [7], []⟩, 
  ⟨⟨(some 40), (some (32, true)), (.ld none (.t 39))⟩, .ld, [], []⟩, ⟨⟨(some 41), (some (32, true)), (.call f_cmp_Less_string [(.t 36), (.t 40)])⟩, .eff, [], []⟩, 
  ⟨⟨(some 42), (some (32, true)), (.un .not (.t 41))⟩, .pure, [], []⟩, ⟨⟨(some 43), none, (.pick (.t 32) (.t 42) (.k (.bool false)))⟩, .pure, [], []⟩]) 
  (.cond (.t 43) .skip (.exit 2))) (.block 3 (.reg [⟨(some 44), none, (.mv (.t 9))⟩, ⟨(some 45), none, (.bin .add (.t 44) (.k (.int .i64 1)))⟩, ⟨(some 9), none, (.mv (.t 45))⟩]))))) 
  (.seq (.block 4 (.loop (.seq (.seq (.drw 0 [⟨⟨(some 46), none, (.mv (.t 9))⟩, .pure, [], []⟩, ⟨⟨(some 47), none, (.mv (.t 10))⟩, .pure, [], []⟩, 
  ⟨⟨(some 48), none, (.bin .leq (.t 46) (.t 47))⟩, .pure, [], []⟩, ⟨⟨(some 49), none, (.mv (.t 48))⟩, .pure, [], []⟩, ⟨⟨(some 50), (some (49, true)), (.mv (.t 0))⟩, .pure, [], []⟩, 
  ⟨⟨(some 51), (some (49, true)), (.mv (.t 1))⟩, .pure, [], []⟩, ⟨⟨(some 52), (some (49, true)), (.ixa 1 (.t 50) (.t 51))⟩, .pure, [], []⟩, 
  ⟨⟨(some 53), (some (49, true)), (.ld none (.t 52))⟩, .ld, [], []⟩, ⟨⟨(some 54), (some (49, true)), (.mv (.t 0))⟩, .pure, [7], []⟩, 
  ⟨⟨(some 55), (some (49, true)), (.mv (.t 10))⟩, .pure, [7], []⟩, ⟨⟨(some 56), (some (49, true)), (.ixa 1 (.t 54) (.t 55))⟩, .pure, [7], []⟩, 
  ⟨⟨(some 57), (some (49, true)), (.ld none (.t 56))⟩, .ld, [], []⟩, ⟨⟨(some 58), (some (49, true)), (.call f_cmp_Less_string [(.t 53), (.t 57)])⟩, .eff, [], []⟩, 
  ⟨⟨(some 59), none, (.pick (.t 49) (.t 58) (.k (.bool false)))⟩, .pure, [], []⟩]) (.cond (.t 59) .skip (.exit 4))) (.block 5 (.reg [⟨(some 60), none, (.mv (.t 10))⟩, 
  ⟨(some 61), none, (.bin .sub (.t 60) (.k (.int .i64 1)))⟩, ⟨(some 10), none, (.mv (.t 61))⟩]))))) (.seq (.seq (.reg [⟨(some 62), none, (.mv (.t 9))⟩, 
  ⟨(some 63), none, (.mv (.t 10))⟩, ⟨(some 64), none, (.bin .gtr (.t 62) (.t 63))⟩]) (.cond (.t 64) (.exit 0) .skip)) (.seq 
  (.drw 0 [⟨⟨(some 65), none, (.mv (.t 0))⟩, .pure, [], []⟩, ⟨⟨(some 66), none, (.mv (.t 9))⟩, .pure, [], []⟩, ⟨⟨(some 67), none, (.mv (.t 0))⟩, .pure, [], []⟩, 
  ⟨⟨(some 68), none, (.mv (.t 10))⟩, .pure, [], []⟩, ⟨⟨(some 69), none, (.mv (.t 0))⟩, .pure, [], []⟩, ⟨⟨(some 70), none, (.mv (.t 10))⟩, .pure, [], []⟩, 
  ⟨⟨(some 71), none, (.ixa 1 (.t 69) (.t 70))⟩, .pure, [], []⟩, ⟨⟨(some 72), none, (.ld none (.t 71))⟩, .ld, [], []⟩, ⟨⟨(some 73), none, (.mv (.t 0))⟩, .pure, [7], []⟩, 
  ⟨⟨(some 74), none, (.mv (.t 9))⟩, .pure, [7], []⟩, ⟨⟨(some 75), none, (.ixa 1 (.t 73) (.t 74))⟩, .pure, [7], []⟩, ⟨⟨(some 76), none, (.ld none (.t 75))⟩, .ld, [], []⟩, 
  ⟨⟨(some 77), none, (.ixa 1 (.t 65) (.t 66))⟩, .pure, [], []⟩, ⟨⟨none, none, (.st none (.t 77) (.t 72))⟩, .eff, [], []⟩, 
  ⟨⟨(some 78), none, (.ixa 1 (.t 67) (.t 68))⟩, .pure, [], []⟩, ⟨⟨none, none, (.st none (.t 78) (.t 76))⟩, .eff, [], []⟩]) (.seq (.reg [⟨(some 79), none, (.mv (.t 9))⟩, 
  ⟨(some 80), none, (.bin .add (.t 79) (.k (.int .i64 1)))⟩, ⟨(some 9), none, (.mv (.t 80))⟩]) (.reg [⟨(some 81), none, (.mv (.t 10))⟩, 
  ⟨(some 82), none, (.bin .sub (.t 81) (.k (.int .i64 1)))⟩, ⟨(some 10), none, (.mv (.t 82))⟩]))))))))) (.seq (.reg [⟨(some 83), none, (.mv (.t 9))⟩, 
  ⟨(some 8), none, (.mv (.t 83))⟩]) .ret)))))⟩
theorem c_slices_partitionEqualOrdered_string : compF Tryd.prog ⟨none, none⟩ Tryd.f67 = some r_slices_partitionEqualOrdered_string := by kernel_rfl
/-- slices.partitionOrdered[string] -/
def r_slices_partitionOrdered_string : RF :=
  ⟨168, [(.tmp 8), (.tmp 9)], (.seq (.reg [⟨(some 8), none, (.mv (.k (.int .i64 0)))⟩, ⟨(some 9), none, (.mv (.k (.bool false)))⟩]) (.seq 
  (.drw 0 [⟨⟨(some 12), none, (.mv (.t 0))⟩, .pure, [], []⟩, ⟨⟨(some 13), none, (.mv (.t 1))⟩, .pure, [], []⟩, ⟨⟨(some 14), none, (.mv (.t 0))⟩, .pure, [], []⟩, 
  ⟨⟨(some 15), none, (.mv (.t 3))⟩, .pure, [], []⟩, ⟨⟨(some 16), none, (.mv (.t 0))⟩, .pure, [], []⟩, ⟨⟨(some 17), none, (.mv (.t 3))⟩, .pure, [], []⟩, 
  ⟨⟨(some 18), none, (.ixa 1 (.t 16) (.t 17))⟩, .pure, [], []⟩, ⟨⟨(some 19), none, (.ld none (.t 18))⟩, .ld, [], []⟩, ⟨⟨(some 20), none, (.mv (.t 0))⟩, .pure, [7], []⟩, 
  ⟨⟨(some 21), none, (.mv (.t 1))⟩, .pure, [7], []⟩, ⟨⟨(some 22), none, (.ixa 1 (.t 20) (.t 21))⟩, .pure, [7], []⟩, ⟨⟨(some 23), none, (.ld none (.t 22))⟩, .ld, [], []⟩, 
  ⟨⟨(some 24), none, (.ixa 1 (.t 12) (.t 13))⟩, .pure, [], []⟩, ⟨⟨none, none, (.st none (.t 24) (.t 19))⟩, .eff, [], []⟩, 
  ⟨⟨(some 25), none, (.ixa 1 (.t 14) (.t 15))⟩, .pure, [], []⟩, ⟨⟨none, none, (.st none (.t 25) (.t 23))⟩, .eff, [], []⟩]) (.seq (.reg [⟨(some 26), none, (.mv (.t 1))⟩, 
  ⟨(some 27), none, (.bin .add (.t 26) (.k (.int .i64 1)))⟩, ⟨(some 28), none, (.mv (.t 2))⟩, ⟨(some 29), none, (.bin .sub (.t 28) (.k (.int .i64 1)))⟩, 
  ⟨(some 10), none, (.mv (.t 27))⟩, ⟨(some 11), none, (.mv (.t 29))⟩]) (.seq (.block 0 (.loop (.seq (.seq (.drw 0 [⟨⟨(some 30), none, (.mv (.t 10))⟩, .pure, [], []⟩, 
  ⟨⟨(some 31), none, (.mv (.t 11))⟩, .pure, [], []⟩, ⟨⟨(some 32), none, (.bin .leq (.t 30) (.t 31))⟩, .pure, [], []⟩, ⟨⟨(some 33), none, (.mv (.t 32))⟩, .pure, [], []⟩, 
  ⟨⟨(some 34), (some (33, true)), (.mv (.t 0))⟩, .pure, [], []⟩, ⟨⟨(some 35), (some (33, true)), (.mv (.t 10))⟩, .pure, [], []⟩, 
  ⟨⟨(some 36), (some (33, true)), (.ixa 1 (.t 34) (.t 35))⟩, .pure, [], []⟩, ⟨⟨(some 37), (some (33, true)), (.ld none (.t 36))⟩, .ld, [], []⟩, 
  ⟨⟨(some 38), (some (33, true)), (.mv (.t 0))⟩, .pure, [7], []⟩, ⟨⟨(some 39), (some (33, true)), (.mv (.t 1))⟩, .pure, [7], []⟩, 
  ⟨⟨(some 40), (some (33, true)), (.ixa 1 (.t 38) (.t 39))⟩, .pure, [7], []⟩, ⟨⟨(some 41), (some (33, true)), (.ld none (.t 40))⟩, .ld, [], []⟩, 
  ⟨⟨(some 42), (some (33, true)), (.call f_cmp_Less_string [(.t 37), (.t 41)])⟩, .eff, [], []⟩, ⟨⟨(some 43), none, (.pick (.t 33) (.t 42) (.k (.bool false)))⟩, .pure, [], []⟩]) 
  (.cond (.t 43) .skip (.exit 0))) (.block 1 (.reg [⟨(some 44), none, (.mv (.t 10))⟩, ⟨(some 45), none, (.bin .add (.t 44) (.k (.int .i64 1)))⟩, 
  ⟨(some 10), none, (.mv (.t 45))⟩]))))) (.seq (.block 2 (.loop (.seq (.seq (.drw 0 [⟨⟨(some 46), none, (.mv (.t 10))⟩, .pure, [], []⟩, 
  ⟨⟨(some 47), none, (.mv (.t 11))⟩, .pure, [], []⟩, ⟨⟨(some 48), none, (.bin .leq (.t 46) (.t 47))⟩, .pure, [], []⟩, ⟨⟨(some 49), none, (.mv (.t 48))⟩, .pure, [], []⟩, 
  ⟨⟨(some 50), (some (49, true)), (.mv (.t 0))⟩, .pure, [], []⟩, ⟨⟨(some 51), (some (49, true)), (.mv (.t 11))⟩, .pure, [], []⟩, 
  ⟨⟨(some 52), (some (49, true)), (.ixa 1 (.t 50) (.t 51))⟩, .pure, [], []⟩, ⟨⟨(some 53), (some (49, true)), (.ld none (.t 52))⟩, .ld, [], []⟩, 
  ⟨⟨(some 54), (some (49, true)), (.mv (.t 0))⟩, .pure, [7], []⟩, ⟨⟨(some 55), (some (49, true)), (.mv (.t 1))⟩, .pure, [7], []⟩, 
  ⟨⟨(some 56), (some (49, true)), (.ixa 1 (.t 54) (.t 55))⟩, .pure, [7], []⟩, ⟨⟨(some 57), (some (49, true)), (.ld none (.t 56))⟩, .ld, [], []⟩, 
  ⟨⟨(some 58), (some (49, true)), (.call f_cmp_Less_string [(.t 53), (.t 57)])⟩, .eff, [], []⟩, ⟨⟨(some 59), (some (49, true)), (.un .not (.t 58))⟩, .pure, [], []⟩, 
  ⟨⟨(some 60), none, (.pick (.t 49) (.t 59) (.k (.bool false)))⟩, .pure, [], []⟩]) (.cond (.t 60) .skip (.exit 2))) (.block 3 (.reg [⟨(some 61), none, (.mv (.t 11))⟩, 
  ⟨(some 62), none, (.bin .sub (.t 61) (.k (.int .i64 1)))⟩, ⟨(some 11), none, (.mv (.t 62))⟩]))))) (.seq (.seq (.reg [⟨(some 63), none, (.mv (.t 10))⟩, 
  ⟨(some 64), none, (.mv (.t 11))⟩, ⟨(some 65), none, (.bin .gtr (.t 63) (.t 64))⟩]) (.cond (.t 65) (.seq (.drw 0 [⟨⟨(some 66), none, (.mv (.t 0))⟩, .pure, [], []⟩, 
  ⟨⟨(some 67), none, (.mv (.t 11))⟩, .pure, [], []⟩, ⟨⟨(some 68), none, (.mv (.t 0))⟩, .pure, [], []⟩, ⟨⟨(some 69), none, (.mv (.t 1))⟩, .pure, [], []⟩, 
  ⟨⟨(some 70), none, (.mv (.t 0))⟩, .pure, [], []⟩, ⟨⟨(some 71), none, (.mv (.t 1))⟩, .pure, [], []⟩, ⟨⟨(some 72), none, (.ixa 1 (.t 70) (.t 71))⟩, .pure, [], []⟩, 
  ⟨⟨(some 73), none, (.ld none (.t 72))⟩, .ld, [], []⟩, ⟨⟨(some 74), none, (.mv (.t 0))⟩, .pure, [7], []⟩, ⟨⟨(some 75), none, (.mv (.t 11))⟩, .pure, [7], []⟩, 
  ⟨⟨(some 76), none, (.ixa 1 (.t 74) (.t 75))⟩, .pure, [7], []⟩, ⟨⟨(some 77), none, (.ld none (.t 76))⟩, .ld, [], []⟩, ⟨⟨(some 78), none, (.ixa 1 (.t 66) (.t 67))⟩, .pure, [], []⟩, 
  ⟨⟨none, none, (.st none (.t 78) (.t 73))⟩, .eff, [], []⟩, ⟨⟨(some 79), none, (.ixa 1 (.t 68) (.t 69))⟩, .pure, [], []⟩, ⟨⟨none, none, (.st none (.t 79) (.t 77))⟩, .eff, [], []⟩]) 
  (.seq (.reg [⟨(some 80), none, (.mv (.t 11))⟩, ⟨(some 8), none, (.mv (.t 80))⟩, ⟨(some 9), none, (.mv (.k (.bool true)))⟩]) .ret)) .skip)) (.seq 
  (.drw 0 [⟨⟨(some 81), none, (.mv (.t 0))⟩, .pure, [], []⟩, ⟨⟨(some 82), none, (.mv (.t 10))⟩, .pure, [], []⟩, ⟨⟨(some 83), none, (.mv (.t 0))⟩, .pure, [], []⟩, 
  ⟨⟨(some 84), none, (.mv (.t 11))⟩, .pure, [], []⟩, ⟨⟨(some 85), none, (.mv (.t 0))⟩, .pure, [], []⟩, ⟨⟨(some 86), none, (.mv (.t 11))⟩, .pure, [], []⟩, 
  ⟨⟨(some 87), none, (.ixa 1 (.t 85) (.t 86))⟩, .pure, [], []⟩, ⟨⟨(some 88), none, (.ld none (.t 87))⟩, .ld, [], []⟩, ⟨⟨(some 89), none, (.mv (.t 0))⟩, .pure, [7], []⟩, 
  ⟨⟨(some 90), none, (.mv (.t 10))⟩, .pure, [7], []⟩, ⟨⟨(some 91), none, (.ixa 1 (.t 89) (.t 90))⟩, .pure, [7], []⟩, ⟨⟨(some 92), none, (.ld none (.t 91))⟩, .ld, [], []⟩, 
  ⟨⟨(some 93), none, (.ixa 1 (.t 81) (.t 82))⟩, .pure, [], []⟩, ⟨⟨none, none, (.st none (.t 93) (.t 88))⟩, .eff, [], []⟩, 
  ⟨⟨(some 94), none, (.ixa 1 (.t 83) (.t 84))⟩, .pure, [], []⟩, ⟨⟨none, none, (.st none (.t 94) (.t 92))⟩, .eff, [], []⟩]) (.seq (.reg [⟨(some 95), none, (.mv (.t 10))⟩, 
  ⟨(some 96), none, (.bin .add (.t 95) (.k (.int .i64 1)))⟩, ⟨(some 10), none, (.mv (.t 96))⟩]) (.seq (.reg [⟨(some 97), none, (.mv (.t 11))⟩, 
  ⟨(some 98), none, (.bin .sub (.t 97) (.k (.int .i64 1)))⟩, ⟨(some 11), none, (.mv (.t 98))⟩]) (.seq (.block 4 (.loop (.block 5 (.seq (.block 6 (.loop (.seq (.seq 
  (.drw 0 [⟨⟨(some 99), none, (.mv (.t 10))⟩, .pure, [], []⟩, ⟨⟨(some 100), none, (.mv (.t 11))⟩, .pure, [], []⟩, ⟨⟨(some 101), none, (.bin .leq (.t 99) (.t 100))⟩, .pure, [], []⟩, 
  ⟨⟨(some 102), none, (.mv (.t 101))⟩, .pure, [], []⟩, ⟨⟨(some 103), (some (102, true)), (.mv (.t 0))⟩, .pure, [], []⟩, 
  ⟨⟨(some 104), (some (102, true)), (.mv (.t 10))⟩, .pure, [], []⟩, ⟨⟨(some 105), (some (102, true)), (.ixa 1 (.t 103) (.t 104))⟩, .pure, [], []⟩, 
  ⟨⟨(some 106), (some (102, true)), (.ld none (.t 105))⟩, .ld, [], []⟩, ⟨⟨(some 107), (some (102, true)), (.mv (.t 0))⟩, .pure, [7], []⟩, 
  ⟨⟨(some 108), (some (102, true)), (.mv (.t 1))⟩, .pure, [7], []⟩, ⟨⟨(some 109), (some (102, true)), (.ixa 1 (.t 107) (.t 108))⟩, .pure, [7], []⟩, 
  ⟨⟨(some 110), (some (102, true)), (.ld none (.t 109))⟩, .ld, [], []⟩, ⟨⟨(some 111), (some (102, true)), (.call f_cmp_Less_string [(.t 106), (.t 110)])⟩, .eff, [], []⟩, 
  ⟨⟨(some 112), none, (.pick (.t 102) (.t 111) (.k (.bool false)))⟩, .pure, [], []⟩]) (.cond (.t 112) .skip (.exit 6))) (.block 7 (.reg [⟨(some 113), none, (.mv (.t 10))⟩, 
  ⟨(some 114), none, (.bin .add (.t 113) (.k (.int .i64 1)))⟩, ⟨(some 10), none, (.mv (.t 114))⟩]))))) (.seq (.block 8 (.loop (.seq (.seq 
  (.drw 0 [⟨⟨(some 115), none, (.mv (.t 10))⟩, .pure, [], []⟩, ⟨⟨(some 116), none, (.mv (.t 11))⟩, .pure, [], []⟩, 
  ⟨⟨(some 117), none, (.bin .leq (.t 115) (.t 116))⟩, .pure, [], []⟩, ⟨⟨(some 118), none, (.mv (.t 117))⟩, .pure, [], []⟩, 
  ⟨⟨(some 119), (some (118, true)), (.mv (.t 0))⟩, .pure, [], []⟩, ⟨⟨(some 120), (some (118, true)), (.mv (.t 11))⟩, .pure, [], []⟩, 
  ⟨⟨(some 121), (some (118, true)), (.ixa 1 (.t 119) (.t 120))⟩, .pure, [], []⟩, ⟨⟨(some 122), (some (118, true)), (.ld none (.t 121))⟩, .ld, [], []⟩, 
  ⟨⟨(some 123), (some (118, true)), (.mv (.t 0))⟩, .pure, [7], []⟩, ⟨⟨(some 124), (some (118, true)), (.mv (.t 1))⟩, .pure, [7], []⟩, 
  ⟨⟨(some 125), (some (118, true)), (.ixa 1 (.t 123) (.t 124))⟩, .pure, [7], []⟩, ⟨⟨(some 126), (some (118, true)), (.ld none (.t 125))⟩, .ld, [], []⟩, 
  ⟨⟨(some 127), (some (118, true)), (.call f_cmp_Less_string [(.t 122), (.t 126)])⟩, .eff, [], []⟩, ⟨⟨(some 128), (some (118, true)), (.un .not (.t 127))⟩, .pure, [], []⟩, 
  ⟨⟨(some 129), none, (.pick (.t 118) (.t 128) (.k (.bool false)))⟩, .pure, [], []⟩]) (.cond (.t 129) .skip (.exit 8))) (.block 9 (.reg [⟨(some 130), none, (.mv (.t 11))⟩, 
  ⟨(some 131), none, (.bin .sub (.t 130) (.k (.int .i64 1)))⟩, ⟨(some 11), none, (.mv (.t 131))⟩]))))) (.seq (.seq (.reg [⟨(some 132), none, (.mv (.t 10))⟩, 
  ⟨(some 133), none, (.mv (.t 11))⟩, ⟨(some 134), none, (.bin .gtr (.t 132) (.t 133))⟩]) (.cond (.t 134) (.exit 4) .skip)) (.seq 
  (.drw 0 [⟨⟨(some 135), none, (.mv (.t 0))⟩, .pure, [], []⟩, ⟨⟨(some 136), none, (.mv (.t 10))⟩, .pure, [], []⟩, ⟨⟨(some 137), none, (.mv (.t 0))⟩, .pure, [], []⟩, 
  ⟨⟨(some 138), none, (.mv (.t 11))⟩, .pure, [], []⟩, ⟨⟨(some 139), none, (.mv (.t 0))⟩, .pure, [], []⟩, ⟨⟨(some 140), none, (.mv (.t 11))⟩, .pure, [], []⟩, 
  ⟨⟨(some 141), none, (.ixa 1 (.t 139) (.t 140))⟩, .pure, [], []⟩, ⟨⟨(some 142), none, (.ld none (.t 141))⟩, .ld, [], []⟩, ⟨⟨(some 143), none, (.mv (.t 0))⟩, .pure, [7], []⟩, 
  ⟨⟨(some 144), none, (.mv (.t 10))⟩, .pure, [7], []⟩, ⟨⟨(some 145), none, (.ixa 1 (.t 143) (.t 144))⟩, .pure, [7], []⟩, ⟨⟨(some 146), none, (.ld none (.t 145))⟩, .ld, [], []⟩, 
  ⟨⟨(some 147), none, (.ixa 1 (.t 135) (.t 136))⟩, .pure, [], []⟩, ⟨⟨none, none, (.st none (.t 147) (.t 142))⟩, .eff, [], []⟩, 
  ⟨⟨(some 148), none, (.ixa 1 (.t 137) (.t 138))⟩, .pure, [], []⟩, ⟨⟨none, none, (.st none (.t 148) (.t 146))⟩, .eff, [], []⟩]) (.seq (.reg [⟨(some 149), none, (.mv (.t 10))⟩, 
  ⟨(some 150), none, (.bin .add (.t 149) (.k (.int .i64 1)))⟩, ⟨(some 10), none, (.mv (.t 150))⟩]) (.reg [⟨(some 151), none, (.mv (.t 11))⟩, 
  ⟨(some 152), none, (.bin .sub (.t 151) (.k (.int .i64 1)))⟩, ⟨(some 11), none, (.mv (.t 152))⟩]))))))))) (.seq (.drw 0 [⟨⟨(some 153), none, (.mv (.t 0))⟩, .pure, [], []⟩, 
  ⟨⟨(some 154), none, (.mv (.t 11))⟩, .pure, [], []⟩, ⟨⟨(some 155), none, (.mv (.t 0))⟩, .pure, [], []⟩, ⟨⟨(some 156), none, (.mv (.t 1))⟩, .pure, [], []⟩, 
  ⟨⟨(some 157), none, (.mv (.t 0))⟩, .pure, [], []⟩, ⟨⟨(some 158), none, (.mv (.t 1))⟩, .pure, [], []⟩, ⟨⟨(some 159), none, (.ixa 1 (.t 157) (.t 158))⟩, .pure, [], []⟩, 
  ⟨⟨(some 160), none, (.ld none (.t 159))⟩, .ld, [], []⟩, ⟨⟨(some 161), none, (.mv (.t 0))⟩, .pure, [7], []⟩, ⟨⟨(some 162), none, (.mv (.t 11))⟩, .pure, [7], []⟩, 
  ⟨⟨(some 163), none, (.ixa 1 (.t 161) (.t 162))⟩, .pure, [7], []⟩, ⟨⟨(some 164), none, (.ld none (.t 163))⟩, .ld, [], []⟩, 
  ⟨⟨(some 165), none, (.ixa 1 (.t 153) (.t 154))⟩, .pure, [], []⟩, ⟨⟨none, none, (.st none (.t 165) (.t 160))⟩, .eff, [], []⟩, 
  ⟨⟨(some 166), none, (.ixa 1 (.t 155) (.t 156))⟩, .pure, [], []⟩, ⟨⟨none, none, (.st none (.t 166) (.t 164))⟩, .eff, [], []⟩]) (.seq (.reg [⟨(some 167), none, (.mv (.t 11))⟩, 
  ⟨(some 8), none, (.mv (.t 167))⟩, ⟨(some 9), none, (.mv (.k (.bool false)))⟩]) .ret))))))))))))⟩
theorem c_slices_partitionOrdered_string : compF Tryd.prog ⟨none, none⟩ Tryd.f68 = some r_slices_partitionOrdered_string := by kernel_rfl
/-- math/bits.Len32 -/
def r_bits_Len32 : RF :=
  ⟨19, [(.tmp 2)], (.seq (.reg [⟨(some 2), none, (.mv (.k (.int .i64 0)))⟩]) (.seq (.seq (.reg [⟨(some 3), none, (.mv (.t 0))⟩, 
  ⟨(some 4), none, (.bin .geq (.t 3) (.k (.int .u32 65536)))⟩]) (.cond (.t 4) (.seq (.reg [⟨(some 5), none, (.mv (.t 0))⟩, ⟨(some 6), none, (.bin .shr (.t 5) (.k (.int .u64 16)))⟩, 
  ⟨(some 0), none, (.mv (.t 6))⟩]) (.reg [⟨(some 2), none, (.mv (.k (.int .i64 16)))⟩])) .skip)) (.seq (.seq (.reg [⟨(some 7), none, (.mv (.t 0))⟩, 
  ⟨(some 8), none, (.bin .geq (.t 7) (.k (.int .u32 256)))⟩]) (.cond (.t 8) (.seq (.reg [⟨(some 9), none, (.mv (.t 0))⟩, ⟨(some 10), none, (.bin .shr (.t 9) (.k (.int .u64 8)))⟩, 
  ⟨(some 0), none, (.mv (.t 10))⟩]) (.reg [⟨(some 11), none, (.mv (.t 2))⟩, ⟨(some 12), none, (.bin .add (.t 11) (.k (.int .i64 8)))⟩, ⟨(some 2), none, (.mv (.t 12))⟩])) .skip)) 
  (.seq (.reg [⟨(some 13), none, (.mv (.t 2))⟩, ⟨(some 14), none, (.mv (.t 0))⟩, ⟨(some 15), none, (.cvi .u8 (.t 14))⟩, 
  ⟨(some 16), none, (.ixs (.k (.str (bts [0, 1, 2, 2, 3, 3, 3, 3, 4, 4, 4, 4, 4, 4, 4, 4, 5, 5, 5, 5, 5, 5, 5, 5, 5, 5, 5, 5, 5, 5, 5, 5, 6, 6, 6, 6, 6, 6, 6, 6, 6, 6, 6, 6, 6, 6, 6, 6, 6, 6, 6, 6, 6, 6, 6, 6, 6, 6, 6, 6, 6, 6, 6, 6, 7, 7, 7, 7, 7, 7, 7, 7, 7, 7, 7, 7, 7, 7, 7, 7, 7, 7, 7, 7, 7, 7, 7, 7, 7, 7, 7, 7, 7, 7, 7, 7, 7, 7, 7, 7, 7, 7, 7, 7, 7, 7, 7, 7, 7, 7, 7, 7, 7, 7, 7, 7, 7, 7, 7, 7, 7, 7, 7, 7, 7, 7, 7, 7, 8, 8, 8, 8, 8, 8, 8, 8, 8, 8, 8, 8, 8, 8, 8, 8, 8, 8, 8, 8, 8, 8, 8, 8, 8, 8, 8, 8, 8, 8, 8, 8, 8, 8, 8, 8, 8, 8, 8, 8, 8, 8, 8, 8, 8, 8, 8, 8, 8, 8, 8, 8, 8, 8, 8, 8, 8, 8, 8, 8, 8, 8, 8, 8, 8, 8, 8, 8, 8, 8, 8, 8, 8, 8, 8, 8, 8, 8, 8, 8, 8, 8, 8, 8, 8, 8, 8, 8, 8, 8, 8, 8, 8, 8, 8, 8, 8, 8, 8, 8, 8, 8, 8, 8, 8, 8, 8, 8, 8, 8, 8, 8, 8, 8, 8, 8, 8, 8, 8, 8, 8, 8, 8, 8, 8, 8, 8, 8]))) (.t 15))⟩, 
  ⟨(some 17), none, (.cvi .i64 (.t 16))⟩, ⟨(some 18), none, (.bin .add (.t 13) (.t 17))⟩, ⟨(some 2), none, (.mv (.t 18))⟩]) .ret))))⟩
theorem c_bits_Len32 : compF Tryd.prog ⟨none, none⟩ Tryd.f69 = some r_bits_Len32 := by kernel_rfl
/-- math/bits.Len64 -/
def r_bits_Len64 : RF :=
  ⟨25, [(.tmp 2)], (.seq (.reg [⟨(some 2), none, (.mv (.k (.int .i64 0)))⟩]) (.seq (.seq (.reg [⟨(some 3), none, (.mv (.t 0))⟩, 
  ⟨(some 4), none, (.bin .geq (.t 3) (.k (.int .u64 4294967296)))⟩]) (.cond (.t 4) (.seq (.reg [⟨(some 5), none, (.mv (.t 0))⟩, 
  ⟨(some 6), none, (.bin .shr (.t 5) (.k (.int .u64 32)))⟩, ⟨(some 0), none, (.mv (.t 6))⟩]) (.reg [⟨(some 2), none, (.mv (.k (.int .i64 32)))⟩])) .skip)) (.seq (.seq 
  (.reg [⟨(some 7), none, (.mv (.t 0))⟩, ⟨(some 8), none, (.bin .geq (.t 7) (.k (.int .u64 65536)))⟩]) (.cond (.t 8) (.seq (.reg [⟨(some 9), none, (.mv (.t 0))⟩, 
  ⟨(some 10), none, (.bin .shr (.t 9) (.k (.int .u64 16)))⟩, ⟨(some 0), none, (.mv (.t 10))⟩]) (.reg [⟨(some 11), none, (.mv (.t 2))⟩, 
  ⟨(some 12), none, (.bin .add (.t 11) (.k (.int .i64 16)))⟩, ⟨(some 2), none, (.mv (.t 12))⟩])) .skip)) (.seq (.seq (.reg [⟨(some 13), none, (.mv (.t 0))⟩, 
  ⟨(some 14), none, (.bin .geq (.t 13) (.k (.int .u64 256)))⟩]) (.cond (.t 14) (.seq (.reg [⟨(some 15), none, (.mv (.t 0))⟩, 
  ⟨(some 16), none, (.bin .shr (.t 15) (.k (.int .u64 8)))⟩, ⟨(some 0), none, (.mv (.t 16))⟩]) (.reg [⟨(some 17), none, (.mv (.t 2))⟩, 
  ⟨(some 18), none, (.bin .add (.t 17) (.k (.int .i64 8)))⟩, ⟨(some 2), none, (.mv (.t 18))⟩])) .skip)) (.seq (.reg [⟨(some 19), none, (.mv (.t 2))⟩, 
  ⟨(some 20), none, (.mv (.t 0))⟩, ⟨(some 21), none, (.cvi .u8 (.t 20))⟩, 
  ⟨(some 22), none, (.ixs (.k (.str (bts [0, 1, 2, 2, 3, 3, 3, 3, 4, 4, 4, 4, 4, 4, 4, 4, 5, 5, 5, 5, 5, 5, 5, 5, 5, 5, 5, 5, 5, 5, 5, 5, 6, 6, 6, 6, 6, 6, 6, 6, 6, 6, 6, 6, 6, 6, 6, 6, 6, 6, 6, 6, 6, 6, 6, 6, 6, 6, 6, 6, 6, 6, 6, 6, 7, 7, 7, 7, 7, 7, 7, 7, 7, 7, 7, 7, 7, 7, 7, 7, 7, 7, 7, 7, 7, 7, 7, 7, 7, 7, 7, 7, 7, 7, 7, 7, 7, 7, 7, 7, 7, 7, 7, 7, 7, 7, 7, 7, 7, 7, 7, 7, 7, 7, 7, 7, 7, 7, 7, 7, 7, 7, 7, 7, 7, 7, 7, 7, 8, 8, 8, 8, 8, 8, 8, 8, 8, 8, 8, 8, 8, 8, 8, 8, 8, 8, 8, 8, 8, 8, 8, 8, 8, 8, 8, 8, 8, 8, 8, 8, 8, 8, 8, 8, 8, 8, 8, 8, 8, 8, 8, 8, 8, 8, 8, 8, 8, 8, 8, 8, 8, 8, 8, 8, 8, 8, 8, 8, 8, 8, 8, 8, 8, 8, 8, 8, 8, 8, 8, 8, 8, 8, 8, 8, 8, 8, 8, 8, 8, 8, 8, 8, 8, 8, 8, 8, 8, 8, 8, 8, 8, 8, 8, 8, 8, 8, 8, 8, 8, 8, 8, 8, 8, 8, 8, 8, 8, 8, 8, 8, 8, 8, 8, 8, 8, 8, 8, 8, 8, 8, 8, 8, 8, 8, 8, 8]))) (.t 21))⟩, 
  ⟨(some 23), none, (.cvi .i64 (.t 22))⟩, ⟨(some 24), none, (.bin .add (.t 19) (.t 23))⟩, ⟨(some 2), none, (.mv (.t 24))⟩]) .ret)))))⟩
theorem c_bits_Len64 : compF Tryd.prog ⟨none, none⟩ Tryd.f70 = some r_bits_Len64 := by kernel_rfl
/-- strings.trimLeftByte -/
def r_strings_trimLeftByte : RF :=
  ⟨17, [(.tmp 4)], (.seq (.reg [⟨(some 4), none, (.mv (.k (.str (bts []))))⟩]) (.seq (.block 0 (.loop (.seq (.seq (.reg [⟨(some 5), none, (.mv (.t 0))⟩, 
  ⟨(some 6), none, (.lens (.t 5))⟩, ⟨(some 7), none, (.bin .gtr (.t 6) (.k (.int .i64 0)))⟩, ⟨(some 8), none, (.mv (.t 7))⟩, ⟨(some 9), (some (8, true)), (.mv (.t 0))⟩, 
  ⟨(some 10), (some (8, true)), (.ixs (.t 9) (.k (.int .i64 0)))⟩, ⟨(some 11), (some (8, true)), (.mv (.t 1))⟩, ⟨(some 12), (some (8, true)), (.eq false .i (.t 10) (.t 11))⟩, 
  ⟨(some 13), none, (.pick (.t 8) (.t 12) (.k (.bool false)))⟩]) (.cond (.t 13) .skip (.exit 0))) (.block 1 (.reg [⟨(some 14), none, (.mv (.t 0))⟩, 
  ⟨(some 15), none, (.sls (.t 14) (some (.k (.int .i64 1))) none)⟩, ⟨(some 0), none, (.mv (.t 15))⟩]))))) (.seq (.reg [⟨(some 16), none, (.mv (.t 0))⟩, 
  ⟨(some 4), none, (.mv (.t 16))⟩]) .ret)))⟩
theorem c_strings_trimLeftByte : compF Tryd.prog ⟨none, none⟩ Tryd.f71 = some r_strings_trimLeftByte := by kernel_rfl
/-- strings.trimRightByte -/
def r_strings_trimRightByte : RF :=
  ⟨23, [(.tmp 4)], (.seq (.reg [⟨(some 4), none, (.mv (.k (.str (bts []))))⟩]) (.seq (.block 0 (.loop (.seq (.seq (.reg [⟨(some 5), none, (.mv (.t 0))⟩, 
  ⟨(some 6), none, (.lens (.t 5))⟩, ⟨(some 7), none, (.bin .gtr (.t 6) (.k (.int .i64 0)))⟩, ⟨(some 8), none, (.mv (.t 7))⟩, ⟨(some 9), (some (8, true)), (.mv (.t 0))⟩, 
  ⟨(some 10), (some (8, true)), (.mv (.t 0))⟩, ⟨(some 11), (some (8, true)), (.lens (.t 10))⟩, ⟨(some 12), (some (8, true)), (.bin .sub (.t 11) (.k (.int .i64 1)))⟩, 
  ⟨(some 13), (some (8, true)), (.ixs (.t 9) (.t 12))⟩, ⟨(some 14), (some (8, true)), (.mv (.t 1))⟩, ⟨(some 15), (some (8, true)), (.eq false .i (.t 13) (.t 14))⟩, 
  ⟨(some 16), none, (.pick (.t 8) (.t 15) (.k (.bool false)))⟩]) (.cond (.t 16) .skip (.exit 0))) (.block 1 (.reg [⟨(some 17), none, (.mv (.t 0))⟩, ⟨(some 18), none, (.mv (.t 0))⟩, 
  ⟨(some 19), none, (.lens (.t 18))⟩, ⟨(some 20), none, (.bin .sub (.t 19) (.k (.int .i64 1)))⟩, ⟨(some 21), none, (.sls (.t 17) none (some (.t 20)))⟩, 
  ⟨(some 0), none, (.mv (.t 21))⟩]))))) (.seq (.reg [⟨(some 22), none, (.mv (.t 0))⟩, ⟨(some 4), none, (.mv (.t 22))⟩]) .ret)))⟩
theorem c_strings_trimRightByte : compF Tryd.prog ⟨none, none⟩ Tryd.f72 = some r_strings_trimRightByte := by kernel_rfl
/-- strings.makeASCIISet -/
def r_strings_makeASCIISet : RF :=
  ⟨21, [(.cell (some 256) 2), (.tmp 3)], (.seq 
  (.reg [⟨(some 2), none, (.new [(.bool false), (.bool false), (.bool false), (.bool false), (.bool false), (.bool false), (.bool false), (.bool false), (.bool false), (.bool false), (.bool false), (.bool false), (.bool false), (.bool false), (.bool false), (.bool false), (.bool false), (.bool false), (.bool false), (.bool false), (.bool false), (.bool false), (.bool false), (.bool false), (.bool false), (.bool false), (.bool false), (.bool false), (.bool false), (.bool false), (.bool false), (.bool false), (.bool false), (.bool false), (.bool false), (.bool false), (.bool false), (.bool false), (.bool false), (.bool false), (.bool false), (.bool false), (.bool false), (.bool false), (.bool false), (.bool false), (.bool false), (.bool false), (.bool false), (.bool false), (.bool false), (.bool false), (.bool false), (.bool false), (.bool false), (.bool false), (.bool false), (.bool false), (.bool false), (.bool false), (.bool false), (.bool false), (.bool false), (.bool false), (.bool false), (.bool false), (.bool false), (.bool false), (.bool false), (.bool false), (.bool false), (.bool false), (.bool false), (.bool false), (.bool false), (.bool false), (.bool false), (.bool false), (.bool false), (.bool false), (.bool false), (.bool false), (.bool false), (.bool false), (.bool false), (.bool false), (.bool false), (.bool false), (.bool false), (.bool false), (.bool false), (.bool false), (.bool false), (.bool false), (.bool false), (.bool false), (.bool false), (.bool false), (.bool false), (.bool false), (.bool false), (.bool false), (.bool false), (.bool false), (.bool false), (.bool false), (.bool false), (.bool false), (.bool false), (.bool false), (.bool false), (.bool false), (.bool false), (.bool false), (.bool false), (.bool false), (.bool false), (.bool false), (.bool false), (.bool false), (.bool false), (.bool false), (.bool false), (.bool false), (.bool false), (.bool false), (.bool false), (.bool false), (.bool false), (.bool false), (.bool false), (.bool false), (.bool false), (.bool false), (.bool false), (.bool false), (.bool false), (.bool false), (.bool false), (.bool false), (.bool false), (.bool false), (.bool false), (.bool false), (.bool false), (.bool false), (.bool false), (.bool false), (.bool false), (.bool false), (.bool false), (.bool false), (.bool false), (.bool false), (.bool false), (.bool false), (.bool false), (.bool false), (.bool false), (.bool false), (.bool false), (.bool false), (.bool false), (.bool false), (.bool false), (.bool false), (.bool false), (.bool false), (.bool false), (.bool false), (.bool false), (.bool false), (.bool false), (.bool false), (.bool false), (.bool false), (.bool false), (.bool false), (.bool false), (.bool false), (.bool false), (.bool false), (.bool false), (.bool false), (.bool false), (.bool false), (.bool false), (.bool false), (.bool false), (.bool false), (.bool false), (.bool false), (.bool false), (.bool false), (.bool false), (.bool false), (.bool false), (.bool false), (.bool false), (.bool false), (.bool false), (.bool false), (.bool false), (.bool false), (.bool false), (.bool false), (.bool false), (.bool false), (.bool false), (.bool false), (.bool false), (.bool false), (.bool false), (.bool false), (.bool false), (.bool false), (.bool false), (.bool false), (.bool false), (.bool false), (.bool false), (.bool false), (.bool false), (.bool false), (.bool false), (.bool false), (.bool false), (.bool false), (.bool false), (.bool false), (.bool false), (.bool false), (.bool false), (.bool false), (.bool false), (.bool false), (.bool false), (.bool false), (.bool false), (.bool false), (.bool false), (.bool false), (.bool false), (.bool false), (.bool false), (.bool false), (.bool false), (.bool false), (.bool false), (.bool false), (.bool false), (.bool false), (.bool false), (.bool false), (.bool false), (.bool false)])⟩, 
  ⟨(some 3), none, (.mv (.k (.bool false)))⟩]) (.seq (.seq (.reg [⟨(some 4), none, (.mv (.k (.int .i64 0)))⟩]) (.block 0 (.loop (.seq (.seq (.reg [⟨(some 6), none, (.mv (.t 4))⟩, 
  ⟨(some 7), none, (.mv (.t 0))⟩, ⟨(some 8), none, (.lens (.t 7))⟩, ⟨(some 9), none, (.bin .lss (.t 6) (.t 8))⟩]) (.cond (.t 9) .skip (.exit 0))) (.seq (.block 1 (.seq 
  (.reg [⟨(some 12), none, (.mv (.t 0))⟩, ⟨(some 13), none, (.mv (.t 4))⟩, ⟨(some 14), none, (.ixs (.t 12) (.t 13))⟩, ⟨(some 5), none, (.mv (.t 14))⟩]) (.seq (.seq 
  (.reg [⟨(some 15), none, (.mv (.t 5))⟩, ⟨(some 16), none, (.bin .geq (.t 15) (.k (.int .u8 128)))⟩]) (.cond (.t 16) (.seq (.reg [⟨(some 17), none, (.ld (some 256) (.t 2))⟩, 
  ⟨none, none, (.st (some 256) (.t 2) (.t 17))⟩, ⟨(some 3), none, (.mv (.k (.bool false)))⟩]) .ret) .skip)) (.reg [⟨(some 18), none, (.mv (.t 5))⟩, 
  ⟨(some 19), none, (.ixp 1 256 (.t 2) (.t 18))⟩, ⟨none, none, (.st none (.t 19) (.k (.bool true)))⟩])))) (.reg [⟨(some 10), none, (.mv (.t 4))⟩, 
  ⟨(some 11), none, (.bin .add (.t 10) (.k (.int .i64 1)))⟩, ⟨(some 4), none, (.mv (.t 11))⟩])))))) (.seq (.reg [⟨(some 20), none, (.ld (some 256) (.t 2))⟩, 
  ⟨none, none, (.st (some 256) (.t 2) (.t 20))⟩, ⟨(some 3), none, (.mv (.k (.bool true)))⟩]) .ret)))⟩
theorem c_strings_makeASCIISet : compF Tryd.prog ⟨none, none⟩ Tryd.f73 = some r_strings_makeASCIISet := by kernel_rfl
/-- strings.trimLeftASCII -/
def r_strings_trimLeftASCII : RF :=
  ⟨16, [(.tmp 4)], (.seq (.reg [⟨(some 4), none, (.mv (.k (.str (bts []))))⟩]) (.seq (.block 0 (.loop (.seq (.seq (.reg [⟨(some 5), none, (.mv (.t 0))⟩, 
  ⟨(some 6), none, (.lens (.t 5))⟩, ⟨(some 7), none, (.bin .gtr (.t 6) (.k (.int .i64 0)))⟩]) (.cond (.t 7) .skip (.exit 0))) (.block 1 (.seq (.seq 
  (.reg [⟨(some 8), none, (.mv (.t 1))⟩, ⟨(some 9), none, (.mv (.t 0))⟩, ⟨(some 10), none, (.ixs (.t 9) (.k (.int .i64 0)))⟩, 
  ⟨(some 11), none, (.call f_strings_asciiSet_contains [(.t 8), (.t 10)])⟩, ⟨(some 12), none, (.un .not (.t 11))⟩]) (.cond (.t 12) (.exit 0) .skip)) 
  (.reg [⟨(some 13), none, (.mv (.t 0))⟩, ⟨(some 14), none, (.sls (.t 13) (some (.k (.int .i64 1))) none)⟩, ⟨(some 0), none, (.mv (.t 14))⟩])))))) (.seq 
  (.reg [⟨(some 15), none, (.mv (.t 0))⟩, ⟨(some 4), none, (.mv (.t 15))⟩]) .ret)))⟩
theorem c_strings_trimLeftASCII : compF Tryd.prog ⟨none, none⟩ Tryd.f74 = some r_strings_trimLeftASCII := by kernel_rfl
/-- strings.trimRightASCII -/
def r_strings_trimRightASCII : RF :=
  ⟨22, [(.tmp 4)], (.seq (.reg [⟨(some 4), none, (.mv (.k (.str (bts []))))⟩]) (.seq (.block 0 (.loop (.seq (.seq (.reg [⟨(some 5), none, (.mv (.t 0))⟩, 
  ⟨(some 6), none, (.lens (.t 5))⟩, ⟨(some 7), none, (.bin .gtr (.t 6) (.k (.int .i64 0)))⟩]) (.cond (.t 7) .skip (.exit 0))) (.block 1 (.seq (.seq 
  (.reg [⟨(some 8), none, (.mv (.t 1))⟩, ⟨(some 9), none, (.mv (.t 0))⟩, ⟨(some 10), none, (.mv (.t 0))⟩, ⟨(some 11), none, (.lens (.t 10))⟩, 
  ⟨(some 12), none, (.bin .sub (.t 11) (.k (.int .i64 1)))⟩, ⟨(some 13), none, (.ixs (.t 9) (.t 12))⟩, ⟨(some 14), none, (.call f_strings_asciiSet_contains [(.t 8), (.t 13)])⟩, 
  ⟨(some 15), none, (.un .not (.t 14))⟩]) (.cond (.t 15) (.exit 0) .skip)) (.reg [⟨(some 16), none, (.mv (.t 0))⟩, ⟨(some 17), none, (.mv (.t 0))⟩, 
  ⟨(some 18), none, (.lens (.t 17))⟩, ⟨(some 19), none, (.bin .sub (.t 18) (.k (.int .i64 1)))⟩, ⟨(some 20), none, (.sls (.t 16) none (some (.t 19)))⟩, 
  ⟨(some 0), none, (.mv (.t 20))⟩])))))) (.seq (.reg [⟨(some 21), none, (.mv (.t 0))⟩, ⟨(some 4), none, (.mv (.t 21))⟩]) .ret)))⟩
theorem c_strings_trimRightASCII : compF Tryd.prog ⟨none, none⟩ Tryd.f75 = some r_strings_trimRightASCII := by kernel_rfl
/-- strings.trimLeftUnicode -/
def r_strings_trimLeftUnicode : RF :=
  ⟨23, [(.tmp 4)], (.seq (.reg [⟨(some 4), none, (.mv (.k (.str (bts []))))⟩]) (.seq (.block 0 (.loop (.seq (.seq (.reg [⟨(some 7), none, (.mv (.t 0))⟩, 
  ⟨(some 8), none, (.lens (.t 7))⟩, ⟨(some 9), none, (.bin .gtr (.t 8) (.k (.int .i64 0)))⟩]) (.cond (.t 9) .skip (.exit 0))) (.block 1 (.seq (.reg [⟨(some 11), none, (.mv (.t 0))⟩, 
  ⟨(some 12), none, (.call f_utf8_DecodeRuneInString [(.t 11)])⟩, ⟨(some 10), none, (.mv (.t 12))⟩, ⟨(some 13), none, (.ext 0 (.t 10))⟩, ⟨(some 14), none, (.ext 1 (.t 10))⟩, 
  ⟨(some 5), none, (.mv (.t 13))⟩, ⟨(some 6), none, (.mv (.t 14))⟩]) (.seq (.seq (.reg [⟨(some 15), none, (.mv (.t 1))⟩, ⟨(some 16), none, (.mv (.t 5))⟩, 
  ⟨(some 17), none, (.call f_strings_ContainsRune [(.t 15), (.t 16)])⟩, ⟨(some 18), none, (.un .not (.t 17))⟩]) (.cond (.t 18) (.exit 0) .skip)) 
  (.reg [⟨(some 19), none, (.mv (.t 0))⟩, ⟨(some 20), none, (.mv (.t 6))⟩, ⟨(some 21), none, (.sls (.t 19) (some (.t 20)) none)⟩, ⟨(some 0), none, (.mv (.t 21))⟩]))))))) (.seq 
  (.reg [⟨(some 22), none, (.mv (.t 0))⟩, ⟨(some 4), none, (.mv (.t 22))⟩]) .ret)))⟩
theorem c_strings_trimLeftUnicode : compF Tryd.prog ⟨none, none⟩ Tryd.f76 = some r_strings_trimLeftUnicode := by kernel_rfl
/-- strings.trimRightUnicode -/
def r_strings_trimRightUnicode : RF :=
  ⟨34, [(.tmp 4)], (.seq (.reg [⟨(some 4), none, (.mv (.k (.str (bts []))))⟩]) (.seq (.block 0 (.loop (.seq (.seq (.reg [⟨(some 7), none, (.mv (.t 0))⟩, 
  ⟨(some 8), none, (.lens (.t 7))⟩, ⟨(some 9), none, (.bin .gtr (.t 8) (.k (.int .i64 0)))⟩]) (.cond (.t 9) .skip (.exit 0))) (.block 1 (.seq (.reg [⟨(some 10), none, (.mv (.t 0))⟩, 
  ⟨(some 11), none, (.mv (.t 0))⟩, ⟨(some 12), none, (.lens (.t 11))⟩, ⟨(some 13), none, (.bin .sub (.t 12) (.k (.int .i64 1)))⟩, ⟨(some 14), none, (.ixs (.t 10) (.t 13))⟩, 
  ⟨(some 15), none, (.cvi .i32 (.t 14))⟩, ⟨(some 5), none, (.mv (.t 15))⟩, ⟨(some 6), none, (.mv (.k (.int .i64 1)))⟩]) (.seq (.seq (.reg [⟨(some 16), none, (.mv (.t 5))⟩, 
  ⟨(some 17), none, (.bin .geq (.t 16) (.k (.int .i32 128)))⟩]) (.cond (.t 17) (.reg [⟨(some 19), none, (.mv (.t 0))⟩, 
  ⟨(some 20), none, (.call f_utf8_DecodeLastRuneInString [(.t 19)])⟩, ⟨(some 18), none, (.mv (.t 20))⟩, ⟨(some 21), none, (.ext 0 (.t 18))⟩, ⟨(some 22), none, (.ext 1 (.t 18))⟩, 
  ⟨(some 5), none, (.mv (.t 21))⟩, ⟨(some 6), none, (.mv (.t 22))⟩]) .skip)) (.seq (.seq (.reg [⟨(some 23), none, (.mv (.t 1))⟩, ⟨(some 24), none, (.mv (.t 5))⟩, 
  ⟨(some 25), none, (.call f_strings_ContainsRune [(.t 23), (.t 24)])⟩, ⟨(some 26), none, (.un .not (.t 25))⟩]) (.cond (.t 26) (.exit 0) .skip)) 
  (.reg [⟨(some 27), none, (.mv (.t 0))⟩, ⟨(some 28), none, (.mv (.t 0))⟩, ⟨(some 29), none, (.lens (.t 28))⟩, ⟨(some 30), none, (.mv (.t 6))⟩, 
  ⟨(some 31), none, (.bin .sub (.t 29) (.t 30))⟩, ⟨(some 32), none, (.sls (.t 27) none (some (.t 31)))⟩, ⟨(some 0), none, (.mv (.t 32))⟩])))))))) (.seq 
  (.reg [⟨(some 33), none, (.mv (.t 0))⟩, ⟨(some 4), none, (.mv (.t 33))⟩]) .ret)))⟩
theorem c_strings_trimRightUnicode : compF Tryd.prog ⟨none, none⟩ Tryd.f77 = some r_strings_trimRightUnicode := by kernel_rfl
/-- slices.siftDownOrdered[string] -/
def r_slices_siftDownOrdered_string : RF :=
  ⟨76, [], (.seq (.reg [⟨(some 10), none, (.mv (.t 1))⟩, ⟨(some 8), none, (.mv (.t 10))⟩]) (.block 0 (.loop (.block 1 (.seq (.reg [⟨(some 11), none, (.mv (.t 8))⟩, 
  ⟨(some 12), none, (.bin .mul (.k (.int .i64 2)) (.t 11))⟩, ⟨(some 13), none, (.bin .add (.t 12) (.k (.int .i64 1)))⟩, ⟨(some 9), none, (.mv (.t 13))⟩]) (.seq (.seq 
  (.reg [⟨(some 14), none, (.mv (.t 9))⟩, ⟨(some 15), none, (.mv (.t 2))⟩, ⟨(some 16), none, (.bin .geq (.t 14) (.t 15))⟩]) (.cond (.t 16) (.exit 0) .skip)) (.seq (.seq 
  (.drw 0 [⟨⟨(some 17), none, (.mv (.t 9))⟩, .pure, [], []⟩, ⟨⟨(some 18), none, (.bin .add (.t 17) (.k (.int .i64 1)))⟩, .pure, [], []⟩, 
  ⟨⟨(some 19), none, (.mv (.t 2))⟩, .pure, [], []⟩, ⟨⟨(some 20), none, (.bin .lss (.t 18) (.t 19))⟩, .pure, [], []⟩, ⟨⟨(some 21), none, (.mv (.t 20))⟩, .pure, [], []⟩, 
  ⟨⟨(some 22), (some (21, true)), (.mv (.t 0))⟩, .pure, [], []⟩, ⟨⟨(some 23), (some (21, true)), (.mv (.t 3))⟩, .pure, [], []⟩, 
  ⟨⟨(some 24), (some (21, true)), (.mv (.t 9))⟩, .pure, [], []⟩, ⟨⟨(some 25), (some (21, true)), (.bin .add (.t 23) (.t 24))⟩, .pure, [], []⟩, 
  ⟨⟨(some 26), (some (21, true)), (.ixa 1 (.t 22) (.t 25))⟩, .pure, [], []⟩, ⟨⟨(some 27), (some (21, true)), (.ld none (.t 26))⟩, .ld, [], []⟩, 
  ⟨⟨(some 28), (some (21, true)), (.mv (.t 0))⟩, .pure, [10], []⟩, ⟨⟨(some 29), (some (21, true)), (.mv (.t 3))⟩, .pure, [10], []⟩, 
  ⟨⟨(some 30), (some (21, true)), (.mv (.t 9))⟩, .pure, [10], []⟩, ⟨⟨(some 31), (some (21, true)), (.bin .add (.t 29) (.t 30))⟩, .pure, [10], []⟩, 
  ⟨⟨(some 32), (some (21, true)), (.bin .add (.t 31) (.k (.int .i64 1)))⟩, .pure, [10], []⟩, ⟨⟨(some 33), (some (21, true)), (.ixa 1 (.t 28) (.t 32))⟩, .pure, [10], []⟩, 
  ⟨⟨(some 34), (some (21, true)), (.ld none (.t 33))⟩, .ld, [], []⟩, ⟨⟨(some 35), (some (21, true)), (.call f_cmp_Less_string [(.t 27), (.t 34)])⟩, .eff, [], []⟩, 
  ⟨⟨(some 36), none, (.pick (.t 21) (.t 35) (.k (.bool false)))⟩, .pure, [], []⟩]) (.cond (.t 36) (.reg [⟨(some 37), none, (.mv (.t 9))⟩, 
  ⟨(some 38), none, (.bin .add (.t 37) (.k (.int .i64 1)))⟩, ⟨(some 9), none, (.mv (.t 38))⟩]) .skip)) (.seq (.seq (.drw 0 [⟨⟨(some 39), none, (.mv (.t 0))⟩, .pure, [], []⟩, 
  ⟨⟨(some 40), none, (.mv (.t 3))⟩, .pure, [], []⟩, ⟨⟨(some 41), none, (.mv (.t 8))⟩, .pure, [], []⟩, ⟨⟨(some 42), none, (.bin .add (.t 40) (.t 41))⟩, .pure, [], []⟩, 
  ⟨⟨(some 43), none, (.ixa 1 (.t 39) (.t 42))⟩, .pure, [], []⟩, ⟨⟨(some 44), none, (.ld none (.t 43))⟩, .ld, [], []⟩, ⟨⟨(some 45), none, (.mv (.t 0))⟩, .pure, [5], []⟩, 
  ⟨⟨(some 46), none, (.mv (.t 3))⟩, .pure, [5], []⟩, ⟨⟨(some 47), none, (.mv (.t 9))⟩, .pure, [5], []⟩, ⟨⟨(some 48), none, (.bin .add (.t 46) (.t 47))⟩, .pure, [5], []⟩, 
  ⟨⟨(some 49), none, (.ixa 1 (.t 45) (.t 48))⟩, .pure, [5], []⟩, ⟨⟨(some 50), none, (.ld none (.t 49))⟩, .ld, [], []⟩, 
  ⟨⟨(some 51), none, (.call f_cmp_Less_string [(.t 44), (.t 50)])⟩, .eff, [], []⟩, ⟨⟨(some 52), none, (.un .not (.t 51))⟩, .pure, [], []⟩]) (.cond (.t 52) .ret .skip)) (.seq 
  (.drw 0 [⟨⟨(some 53), none, (.mv (.t 0))⟩, .pure, [], []⟩, ⟨⟨(some 54), none, (.mv (.t 3))⟩, .pure, [], []⟩, ⟨⟨(some 55), none, (.mv (.t 8))⟩, .pure, [], []⟩, 
  ⟨⟨(some 56), none, (.bin .add (.t 54) (.t 55))⟩, .pure, [], []⟩, ⟨⟨(some 57), none, (.mv (.t 0))⟩, .pure, [], []⟩, ⟨⟨(some 58), none, (.mv (.t 3))⟩, .pure, [], []⟩, 
  ⟨⟨(some 59), none, (.mv (.t 9))⟩, .pure, [], []⟩, ⟨⟨(some 60), none, (.bin .add (.t 58) (.t 59))⟩, .pure, [], []⟩, ⟨⟨(some 61), none, (.mv (.t 0))⟩, .pure, [], []⟩, 
  ⟨⟨(some 62), none, (.mv (.t 3))⟩, .pure, [], []⟩, ⟨⟨(some 63), none, (.mv (.t 9))⟩, .pure, [], []⟩, ⟨⟨(some 64), none, (.bin .add (.t 62) (.t 63))⟩, .pure, [], []⟩, 
  ⟨⟨(some 65), none, (.ixa 1 (.t 61) (.t 64))⟩, .pure, [], []⟩, ⟨⟨(some 66), none, (.ld none (.t 65))⟩, .ld, [], []⟩, ⟨⟨(some 67), none, (.mv (.t 0))⟩, .pure, [13], []⟩, 
  ⟨⟨(some 68), none, (.mv (.t 3))⟩, .pure, [13], []⟩, ⟨⟨(some 69), none, (.mv (.t 8))⟩, .pure, [13], []⟩, ⟨⟨(some 70), none, (.bin .add (.t 68) (.t 69))⟩, .pure, [13], []⟩, 
  ⟨⟨(some 71), none, (.ixa 1 (.t 67) (.t 70))⟩, .pure, [13], []⟩, ⟨⟨(some 72), none, (.ld none (.t 71))⟩, .ld, [], []⟩, ⟨⟨(some 73), none, (.ixa 1 (.t 53) (.t 56))⟩, .pure, [], []⟩, 
  ⟨⟨none, none, (.st none (.t 73) (.t 66))⟩, .eff, [], []⟩, ⟨⟨(some 74), none, (.ixa 1 (.t 57) (.t 60))⟩, .pure, [], []⟩, ⟨⟨none, none, (.st none (.t 74) (.t 72))⟩, .eff, [], []⟩]) 
  (.reg [⟨(some 75), none, (.mv (.t 9))⟩, ⟨(some 8), none, (.mv (.t 75))⟩]))))))))))⟩
theorem c_slices_siftDownOrdered_string : compF Tryd.prog ⟨none, none⟩ Tryd.f78 = some r_slices_siftDownOrdered_string := by kernel_rfl
/-- slices.nextPowerOfTwo -/
def r_slices_nextPowerOfTwo : RF :=
  ⟨7, [(.tmp 2)], (.seq (.reg [⟨(some 2), none, (.mv (.k (.int .u64 0)))⟩]) (.seq (.reg [⟨(some 3), none, (.mv (.t 0))⟩, ⟨(some 4), none, (.cvi .u64 (.t 3))⟩, 
  ⟨(some 5), none, (.call f_bits_Len [(.t 4)])⟩, ⟨(some 6), none, (.bin .shl (.k (.int .u64 1)) (.t 5))⟩, ⟨(some 2), none, (.mv (.t 6))⟩]) .ret))⟩
theorem c_slices_nextPowerOfTwo : compF Tryd.prog ⟨none, none⟩ Tryd.f79 = some r_slices_nextPowerOfTwo := by kernel_rfl
/-- (*slices.xorshift).Next -/
def r_slices_xorshift_Next : RF :=
  ⟨33, [(.tmp 2)], (.seq (.reg [⟨(some 2), none, (.mv (.k (.int .u64 0)))⟩]) (.seq (.drw 0 [⟨⟨(some 3), none, (.mv (.t 0))⟩, .pure, [], []⟩, 
  ⟨⟨(some 4), none, (.nck (.t 3))⟩, .pure, [], []⟩, ⟨⟨(some 5), none, (.ld none (.t 4))⟩, .ld, [], []⟩, ⟨⟨(some 6), none, (.mv (.t 0))⟩, .pure, [2], []⟩, 
  ⟨⟨(some 7), none, (.nck (.t 6))⟩, .pure, [2], []⟩, ⟨⟨(some 8), none, (.ld none (.t 7))⟩, .ld, [], []⟩, ⟨⟨(some 9), none, (.bin .shl (.t 8) (.k (.int .u64 13)))⟩, .pure, [2], []⟩, 
  ⟨⟨(some 10), none, (.bin .xor (.t 5) (.t 9))⟩, .pure, [], []⟩, ⟨⟨(some 11), none, (.nck (.t 3))⟩, .pure, [], []⟩, ⟨⟨none, none, (.st none (.t 11) (.t 10))⟩, .eff, [], []⟩]) (.seq 
  (.drw 0 [⟨⟨(some 12), none, (.mv (.t 0))⟩, .pure, [], []⟩, ⟨⟨(some 13), none, (.nck (.t 12))⟩, .pure, [], []⟩, ⟨⟨(some 14), none, (.ld none (.t 13))⟩, .ld, [], []⟩, 
  ⟨⟨(some 15), none, (.mv (.t 0))⟩, .pure, [2], []⟩, ⟨⟨(some 16), none, (.nck (.t 15))⟩, .pure, [2], []⟩, ⟨⟨(some 17), none, (.ld none (.t 16))⟩, .ld, [], []⟩, 
  ⟨⟨(some 18), none, (.bin .shr (.t 17) (.k (.int .u64 7)))⟩, .pure, [2], []⟩, ⟨⟨(some 19), none, (.bin .xor (.t 14) (.t 18))⟩, .pure, [], []⟩, 
  ⟨⟨(some 20), none, (.nck (.t 12))⟩, .pure, [], []⟩, ⟨⟨none, none, (.st none (.t 20) (.t 19))⟩, .eff, [], []⟩]) (.seq (.drw 0 [⟨⟨(some 21), none, (.mv (.t 0))⟩, .pure, [], []⟩, 
  ⟨⟨(some 22), none, (.nck (.t 21))⟩, .pure, [], []⟩, ⟨⟨(some 23), none, (.ld none (.t 22))⟩, .ld, [], []⟩, ⟨⟨(some 24), none, (.mv (.t 0))⟩, .pure, [2], []⟩, 
  ⟨⟨(some 25), none, (.nck (.t 24))⟩, .pure, [2], []⟩, ⟨⟨(some 26), none, (.ld none (.t 25))⟩, .ld, [], []⟩, 
  ⟨⟨(some 27), none, (.bin .shl (.t 26) (.k (.int .u64 17)))⟩, .pure, [2], []⟩, ⟨⟨(some 28), none, (.bin .xor (.t 23) (.t 27))⟩, .pure, [], []⟩, 
  ⟨⟨(some 29), none, (.nck (.t 21))⟩, .pure, [], []⟩, ⟨⟨none, none, (.st none (.t 29) (.t 28))⟩, .eff, [], []⟩]) (.seq (.reg [⟨(some 30), none, (.mv (.t 0))⟩, 
  ⟨(some 31), none, (.nck (.t 30))⟩, ⟨(some 32), none, (.ld none (.t 31))⟩, ⟨(some 2), none, (.mv (.t 32))⟩]) .ret)))))⟩
theorem c_slices_xorshift_Next : compF Tryd.prog ⟨none, none⟩ Tryd.f80 = some r_slices_xorshift_Next := by kernel_rfl
/-- slices.medianAdjacentOrdered[string] -/
def r_slices_medianAdjacentOrdered_string : RF :=
  ⟨15, [(.tmp 6)], (.seq (.reg [⟨(some 6), none, (.mv (.k (.int .i64 0)))⟩]) (.seq (.reg [⟨(some 7), none, (.mv (.t 0))⟩, ⟨(some 8), none, (.mv (.t 1))⟩, 
  ⟨(some 9), none, (.bin .sub (.t 8) (.k (.int .i64 1)))⟩, ⟨(some 10), none, (.mv (.t 1))⟩, ⟨(some 11), none, (.mv (.t 1))⟩, 
  ⟨(some 12), none, (.bin .add (.t 11) (.k (.int .i64 1)))⟩, ⟨(some 13), none, (.mv (.t 2))⟩, 
  ⟨(some 14), none, (.call f_slices_medianOrdered_string [(.t 7), (.t 9), (.t 10), (.t 12), (.t 13)])⟩, ⟨(some 6), none, (.mv (.t 14))⟩]) .ret))⟩
theorem c_slices_medianAdjacentOrdered_string : compF Tryd.prog ⟨none, none⟩ Tryd.f81 = some r_slices_medianAdjacentOrdered_string := by kernel_rfl
/-- slices.medianOrdered[string] -/
def r_slices_medianOrdered_string : RF :=
  ⟨36, [(.tmp 10)], (.seq (.reg [⟨(some 10), none, (.mv (.k (.int .i64 0)))⟩]) (.seq (.reg [⟨(some 12), none, (.mv (.t 0))⟩, ⟨(some 13), none, (.mv (.t 1))⟩, 
  ⟨(some 14), none, (.mv (.t 2))⟩, ⟨(some 15), none, (.mv (.t 4))⟩, ⟨(some 16), none, (.call f_slices_order2Ordered_string [(.t 12), (.t 13), (.t 14), (.t 15)])⟩, 
  ⟨(some 11), none, (.mv (.t 16))⟩, ⟨(some 17), none, (.ext 0 (.t 11))⟩, ⟨(some 18), none, (.ext 1 (.t 11))⟩, ⟨(some 1), none, (.mv (.t 17))⟩, ⟨(some 2), none, (.mv (.t 18))⟩]) 
  (.seq (.reg [⟨(some 20), none, (.mv (.t 0))⟩, ⟨(some 21), none, (.mv (.t 2))⟩, ⟨(some 22), none, (.mv (.t 3))⟩, ⟨(some 23), none, (.mv (.t 4))⟩, 
  ⟨(some 24), none, (.call f_slices_order2Ordered_string [(.t 20), (.t 21), (.t 22), (.t 23)])⟩, ⟨(some 19), none, (.mv (.t 24))⟩, ⟨(some 25), none, (.ext 0 (.t 19))⟩, 
  ⟨(some 26), none, (.ext 1 (.t 19))⟩, ⟨(some 2), none, (.mv (.t 25))⟩, ⟨(some 3), none, (.mv (.t 26))⟩]) (.seq (.reg [⟨(some 28), none, (.mv (.t 0))⟩, 
  ⟨(some 29), none, (.mv (.t 1))⟩, ⟨(some 30), none, (.mv (.t 2))⟩, ⟨(some 31), none, (.mv (.t 4))⟩, 
  ⟨(some 32), none, (.call f_slices_order2Ordered_string [(.t 28), (.t 29), (.t 30), (.t 31)])⟩, ⟨(some 27), none, (.mv (.t 32))⟩, ⟨(some 33), none, (.ext 0 (.t 27))⟩, 
  ⟨(some 34), none, (.ext 1 (.t 27))⟩, ⟨(some 1), none, (.mv (.t 33))⟩, ⟨(some 2), none, (.mv (.t 34))⟩]) (.seq (.reg [⟨(some 35), none, (.mv (.t 2))⟩, 
  ⟨(some 10), none, (.mv (.t 35))⟩]) .ret)))))⟩
theorem c_slices_medianOrdered_string : compF Tryd.prog ⟨none, none⟩ Tryd.f82 = some r_slices_medianOrdered_string := by kernel_rfl
/-- cmp.isNaN[string] -/
def r_cmp_isNaN_string : RF :=
  ⟨6, [(.tmp 2)], (.seq (.reg [⟨(some 2), none, (.mv (.k (.bool false)))⟩]) (.seq (.reg [⟨(some 3), none, (.mv (.t 0))⟩, ⟨(some 4), none, (.mv (.t 0))⟩, 
  ⟨(some 5), none, (.eq true .s (.t 3) (.t 4))⟩, ⟨(some 2), none, (.mv (.t 5))⟩]) .ret))⟩
theorem c_cmp_isNaN_string : compF Tryd.prog ⟨none, none⟩ Tryd.f83 = some r_cmp_isNaN_string := by kernel_rfl
/-- (*strings.asciiSet).contains -/
def r_strings_asciiSet_contains : RF :=
  ⟨10, [(.tmp 4)], (.seq (.reg [⟨(some 4), none, (.mv (.k (.bool false)))⟩]) (.seq (.reg [⟨(some 5), none, (.mv (.t 0))⟩, ⟨(some 6), none, (.mv (.t 1))⟩, 
  ⟨(some 7), none, (.nck (.t 5))⟩, ⟨(some 8), none, (.ixp 1 256 (.t 7) (.t 6))⟩, ⟨(some 9), none, (.ld none (.t 8))⟩, ⟨(some 4), none, (.mv (.t 9))⟩]) .ret))⟩
theorem c_strings_asciiSet_contains : compF Tryd.prog ⟨none, none⟩ Tryd.f84 = some r_strings_asciiSet_contains := by kernel_rfl
/-- unicode/utf8.DecodeRuneInString -/
def r_utf8_DecodeRuneInString : RF :=
  ⟨19, [(.tmp 2), (.tmp 3)], (.seq (.reg [⟨(some 2), none, (.mv (.k (.int .i32 0)))⟩, ⟨(some 3), none, (.mv (.k (.int .i64 0)))⟩]) (.seq (.seq (.reg [⟨(some 4), none, (.mv (.t 0))⟩, 
  ⟨(some 5), none, (.eq true .s (.t 4) (.k (.str (bts []))))⟩, ⟨(some 6), none, (.mv (.t 5))⟩, ⟨(some 7), (some (6, true)), (.mv (.t 0))⟩, 
  ⟨(some 8), (some (6, true)), (.ixs (.t 7) (.k (.int .i64 0)))⟩, ⟨(some 9), (some (6, true)), (.bin .lss (.t 8) (.k (.int .u8 128)))⟩, 
  ⟨(some 10), none, (.pick (.t 6) (.t 9) (.k (.bool false)))⟩]) (.cond (.t 10) (.seq (.reg [⟨(some 11), none, (.mv (.t 0))⟩, ⟨(some 12), none, (.ixs (.t 11) (.k (.int .i64 0)))⟩, 
  ⟨(some 13), none, (.cvi .i32 (.t 12))⟩, ⟨(some 2), none, (.mv (.t 13))⟩, ⟨(some 3), none, (.mv (.k (.int .i64 1)))⟩]) .ret) (.reg [⟨(some 15), none, (.mv (.t 0))⟩, 
  ⟨(some 16), none, (.call f_utf8_decodeRuneInStringSlow [(.t 15)])⟩, ⟨(some 14), none, (.mv (.t 16))⟩, ⟨(some 17), none, (.ext 0 (.t 14))⟩, ⟨(some 18), none, (.ext 1 (.t 14))⟩, 
  ⟨(some 2), none, (.mv (.t 17))⟩, ⟨(some 3), none, (.mv (.t 18))⟩]))) .ret))⟩
theorem c_utf8_DecodeRuneInString : compF Tryd.prog ⟨none, none⟩ Tryd.f85 = some r_utf8_DecodeRuneInString := by kernel_rfl
/-- strings.ContainsRune -/
def r_strings_ContainsRune : RF :=
  ⟨9, [(.tmp 4)], (.seq (.reg [⟨(some 4), none, (.mv (.k (.bool false)))⟩]) (.seq (.reg [⟨(some 5), none, (.mv (.t 0))⟩, ⟨(some 6), none, (.mv (.t 1))⟩, 
  ⟨(some 7), none, (.call f_strings_IndexRune [(.t 5), (.t 6)])⟩, ⟨(some 8), none, (.bin .geq (.t 7) (.k (.int .i64 0)))⟩, ⟨(some 4), none, (.mv (.t 8))⟩]) .ret))⟩
theorem c_strings_ContainsRune : compF Tryd.prog ⟨none, none⟩ Tryd.f86 = some r_strings_ContainsRune := by kernel_rfl
/-- unicode/utf8.DecodeLastRuneInString -/
def r_utf8_DecodeLastRuneInString : RF :=
  ⟨51, [(.tmp 2), (.tmp 3)], (.seq (.reg [⟨(some 2), none, (.mv (.k (.int .i32 0)))⟩, ⟨(some 3), none, (.mv (.k (.int .i64 0)))⟩]) (.seq (.reg [⟨(some 7), none, (.mv (.t 0))⟩, 
  ⟨(some 8), none, (.lens (.t 7))⟩, ⟨(some 4), none, (.mv (.t 8))⟩]) (.seq (.seq (.reg [⟨(some 9), none, (.mv (.t 4))⟩, ⟨(some 10), none, (.eq false .i (.t 9) (.k (.int .i64 0)))⟩]) 
  (.cond (.t 10) (.seq (.reg [⟨(some 2), none, (.mv (.k (.int .i32 65533)))⟩, ⟨(some 3), none, (.mv (.k (.int .i64 0)))⟩]) .ret) .skip)) (.seq 
  (.reg [⟨(some 11), none, (.mv (.t 4))⟩, ⟨(some 12), none, (.bin .sub (.t 11) (.k (.int .i64 1)))⟩, ⟨(some 5), none, (.mv (.t 12))⟩]) (.seq (.reg [⟨(some 13), none, (.mv (.t 0))⟩, 
  ⟨(some 14), none, (.mv (.t 5))⟩, ⟨(some 15), none, (.ixs (.t 13) (.t 14))⟩, ⟨(some 16), none, (.cvi .i32 (.t 15))⟩, ⟨(some 2), none, (.mv (.t 16))⟩]) (.seq (.seq 
  (.reg [⟨(some 17), none, (.mv (.t 2))⟩, ⟨(some 18), none, (.bin .lss (.t 17) (.k (.int .i32 128)))⟩]) (.cond (.t 18) (.seq (.reg [⟨(some 19), none, (.mv (.t 2))⟩, 
  ⟨(some 2), none, (.mv (.t 19))⟩, ⟨(some 3), none, (.mv (.k (.int .i64 1)))⟩]) .ret) .skip)) (.seq (.reg [⟨(some 20), none, (.mv (.t 4))⟩, 
  ⟨(some 21), none, (.bin .sub (.t 20) (.k (.int .i64 4)))⟩, ⟨(some 22), none, (.xp .mx [(.t 21), (.k (.int .i64 0))])⟩, ⟨(some 6), none, (.mv (.t 22))⟩]) (.seq (.seq 
  (.reg [⟨(some 23), none, (.mv (.t 5))⟩, ⟨(some 24), none, (.bin .sub (.t 23) (.k (.int .i64 1)))⟩, ⟨(some 5), none, (.mv (.t 24))⟩]) (.block 0 (.loop (.seq (.seq 
  (.reg [⟨(some 25), none, (.mv (.t 5))⟩, ⟨(some 26), none, (.mv (.t 6))⟩, ⟨(some 27), none, (.bin .geq (.t 25) (.t 26))⟩]) (.cond (.t 27) .skip (.exit 0))) (.seq (.block 1 (.seq 
  (.reg [⟨(some 30), none, (.mv (.t 0))⟩, ⟨(some 31), none, (.mv (.t 5))⟩, ⟨(some 32), none, (.ixs (.t 30) (.t 31))⟩, ⟨(some 33), none, (.call f_utf8_RuneStart [(.t 32)])⟩]) 
  (.cond (.t 33) (.exit 0) .skip))) (.reg [⟨(some 28), none, (.mv (.t 5))⟩, ⟨(some 29), none, (.bin .sub (.t 28) (.k (.int .i64 1)))⟩, ⟨(some 5), none, (.mv (.t 29))⟩])))))) (.seq 
  (.seq (.reg [⟨(some 34), none, (.mv (.t 5))⟩, ⟨(some 35), none, (.bin .lss (.t 34) (.k (.int .i64 0)))⟩]) (.cond (.t 35) 
  (.reg [⟨(some 5), none, (.mv (.k (.int .i64 0)))⟩]) .skip)) (.seq (.reg [⟨(some 37), none, (.mv (.t 0))⟩, ⟨(some 38), none, (.mv (.t 5))⟩, ⟨(some 39), none, (.mv (.t 4))⟩, 
  ⟨(some 40), none, (.sls (.t 37) (some (.t 38)) (some (.t 39)))⟩, ⟨(some 41), none, (.call f_utf8_DecodeRuneInString [(.t 40)])⟩, ⟨(some 36), none, (.mv (.t 41))⟩, 
  ⟨(some 42), none, (.ext 0 (.t 36))⟩, ⟨(some 43), none, (.ext 1 (.t 36))⟩, ⟨(some 2), none, (.mv (.t 42))⟩, ⟨(some 3), none, (.mv (.t 43))⟩]) (.seq (.seq 
  (.reg [⟨(some 44), none, (.mv (.t 5))⟩, ⟨(some 45), none, (.mv (.t 3))⟩, ⟨(some 46), none, (.bin .add (.t 44) (.t 45))⟩, ⟨(some 47), none, (.mv (.t 4))⟩, 
  ⟨(some 48), none, (.eq true .i (.t 46) (.t 47))⟩]) (.cond (.t 48) (.seq (.reg [⟨(some 2), none, (.mv (.k (.int .i32 65533)))⟩, 
  ⟨(some 3), none, (.mv (.k (.int .i64 1)))⟩]) .ret) .skip)) (.seq (.reg [⟨(some 49), none, (.mv (.t 2))⟩, ⟨(some 50), none, (.mv (.t 3))⟩, ⟨(some 2), none, (.mv (.t 49))⟩, 
  ⟨(some 3), none, (.mv (.t 50))⟩]) .ret))))))))))))⟩
theorem c_utf8_DecodeLastRuneInString : compF Tryd.prog ⟨none, none⟩ Tryd.f87 = some r_utf8_DecodeLastRuneInString := by kernel_rfl
/-- slices.order2Ordered[string] -/
def r_slices_order2Ordered_string : RF :=
  ⟨28, [(.tmp 8), (.tmp 9)], (.seq (.reg [⟨(some 8), none, (.mv (.k (.int .i64 0)))⟩, ⟨(some 9), none, (.mv (.k (.int .i64 0)))⟩]) (.seq (.seq 
  (.drw 0 [⟨⟨(some 10), none, (.mv (.t 0))⟩, .pure, [], []⟩, ⟨⟨(some 11), none, (.mv (.t 2))⟩, .pure, [], []⟩, ⟨⟨(some 12), none, (.ixa 1 (.t 10) (.t 11))⟩, .pure, [], []⟩, 
  ⟨⟨(some 13), none, (.ld none (.t 12))⟩, .ld, [], []⟩, ⟨⟨(some 14), none, (.mv (.t 0))⟩, .pure, [3], []⟩, ⟨⟨(some 15), none, (.mv (.t 1))⟩, .pure, [3], []⟩, 
  ⟨⟨(some 16), none, (.ixa 1 (.t 14) (.t 15))⟩, .pure, [3], []⟩, ⟨⟨(some 17), none, (.ld none (.t 16))⟩, .ld, [], []⟩, 
  ⟨⟨(some 18), none, (.call f_cmp_Less_string [(.t 13), (.t 17)])⟩, .eff, [], []⟩]) (.cond (.t 18) (.seq (.reg [⟨(some 19), none, (.mv (.t 3))⟩, ⟨(some 20), none, (.nck (.t 19))⟩, 
  ⟨(some 21), none, (.ld none (.t 20))⟩, ⟨(some 22), none, (.bin .add (.t 21) (.k (.int .i64 1)))⟩, ⟨(some 23), none, (.nck (.t 19))⟩, ⟨none, none, (.st none (.t 23) (.t 22))⟩]) 
  (.seq (.reg [⟨(some 24), none, (.mv (.t 2))⟩, ⟨(some 25), none, (.mv (.t 1))⟩, ⟨(some 8), none, (.mv (.t 24))⟩, ⟨(some 9), none, (.mv (.t 25))⟩]) .ret)) .skip)) (.seq 
  (.reg [⟨(some 26), none, (.mv (.t 1))⟩, ⟨(some 27), none, (.mv (.t 2))⟩, ⟨(some 8), none, (.mv (.t 26))⟩, ⟨(some 9), none, (.mv (.t 27))⟩]) .ret)))⟩
theorem c_slices_order2Ordered_string : compF Tryd.prog ⟨none, none⟩ Tryd.f88 = some r_slices_order2Ordered_string := by kernel_rfl
/-- unicode/utf8.decodeRuneInStringSlow -/
def r_utf8_decodeRuneInStringSlow : RF :=
  ⟨117, [(.tmp 2), (.tmp 3)], (.seq (.reg [⟨(some 2), none, (.mv (.k (.int .i32 0)))⟩, ⟨(some 3), none, (.mv (.k (.int .i64 0)))⟩]) (.seq (.reg [⟨(some 13), none, (.mv (.t 0))⟩, 
  ⟨(some 14), none, (.lens (.t 13))⟩, ⟨(some 4), none, (.mv (.t 14))⟩]) (.seq (.seq (.reg [⟨(some 15), none, (.mv (.t 4))⟩, 
  ⟨(some 16), none, (.bin .lss (.t 15) (.k (.int .i64 1)))⟩]) (.cond (.t 16) (.seq (.reg [⟨(some 2), none, (.mv (.k (.int .i32 65533)))⟩, 
  ⟨(some 3), none, (.mv (.k (.int .i64 0)))⟩]) .ret) .skip)) (.seq (.reg [⟨(some 17), none, (.mv (.t 0))⟩, ⟨(some 18), none, (.ixs (.t 17) (.k (.int .i64 0)))⟩, 
  ⟨(some 5), none, (.mv (.t 18))⟩]) (.seq (.reg [⟨(some 19), none, (.mv (.t 5))⟩, ⟨(some 20), none, .fail⟩, ⟨(some 21), none, (.ld none (.t 20))⟩, ⟨(some 6), none, (.mv (.t 21))⟩]) 
  (.seq (.seq (.reg [⟨(some 22), none, (.mv (.t 6))⟩, ⟨(some 23), none, (.bin .geq (.t 22) (.k (.int .u8 240)))⟩]) (.cond (.t 23) (.seq (.reg [⟨(some 24), none, (.mv (.t 6))⟩, 
  ⟨(some 25), none, (.cvi .i32 (.t 24))⟩, ⟨(some 26), none, (.bin .shl (.t 25) (.k (.int .u64 31)))⟩, ⟨(some 27), none, (.bin .shr (.t 26) (.k (.int .u64 31)))⟩, 
  ⟨(some 7), none, (.mv (.t 27))⟩]) (.seq (.reg [⟨(some 28), none, (.mv (.t 0))⟩, ⟨(some 29), none, (.ixs (.t 28) (.k (.int .i64 0)))⟩, ⟨(some 30), none, (.cvi .i32 (.t 29))⟩, 
  ⟨(some 31), none, (.mv (.t 7))⟩, ⟨(some 32), none, (.bin .andNot (.t 30) (.t 31))⟩, ⟨(some 33), none, (.mv (.t 7))⟩, ⟨(some 34), none, (.bin .and (.k (.int .i32 65533)) (.t 33))⟩, 
  ⟨(some 35), none, (.bin .or (.t 32) (.t 34))⟩, ⟨(some 2), none, (.mv (.t 35))⟩, ⟨(some 3), none, (.mv (.k (.int .i64 1)))⟩]) .ret)) .skip)) (.seq 
  (.reg [⟨(some 36), none, (.mv (.t 6))⟩, ⟨(some 37), none, (.bin .and (.t 36) (.k (.int .u8 7)))⟩, ⟨(some 38), none, (.cvi .i64 (.t 37))⟩, ⟨(some 8), none, (.mv (.t 38))⟩]) (.seq 
  (.reg [⟨(some 39), none, (.mv (.t 6))⟩, ⟨(some 40), none, (.bin .shr (.t 39) (.k (.int .u64 4)))⟩, ⟨(some 41), none, .fail⟩, ⟨(some 42), none, (.ld (some 2) (.t 41))⟩, 
  ⟨(some 9), none, (.new [(.int .u8 0), (.int .u8 0)])⟩, ⟨none, none, (.st (some 2) (.t 9) (.t 42))⟩]) (.seq (.seq (.reg [⟨(some 43), none, (.mv (.t 4))⟩, 
  ⟨(some 44), none, (.mv (.t 8))⟩, ⟨(some 45), none, (.bin .lss (.t 43) (.t 44))⟩]) (.cond (.t 45) (.seq (.reg [⟨(some 2), none, (.mv (.k (.int .i32 65533)))⟩, 
  ⟨(some 3), none, (.mv (.k (.int .i64 1)))⟩]) .ret) .skip)) (.seq (.reg [⟨(some 46), none, (.mv (.t 0))⟩, ⟨(some 47), none, (.ixs (.t 46) (.k (.int .i64 1)))⟩, 
  ⟨(some 10), none, (.mv (.t 47))⟩]) (.seq (.seq (.reg [⟨(some 48), none, (.mv (.t 10))⟩, ⟨(some 49), none, (.off 0 (.t 9))⟩, ⟨(some 50), none, (.ld none (.t 49))⟩, 
  ⟨(some 51), none, (.bin .lss (.t 48) (.t 50))⟩, ⟨(some 52), none, (.mv (.t 51))⟩, ⟨(some 53), (some (52, false)), (.off 1 (.t 9))⟩, 
  ⟨(some 54), (some (52, false)), (.ld none (.t 53))⟩, ⟨(some 55), (some (52, false)), (.mv (.t 10))⟩, ⟨(some 56), (some (52, false)), (.bin .lss (.t 54) (.t 55))⟩, 
  ⟨(some 57), none, (.pick (.t 52) (.k (.bool true)) (.t 56))⟩]) (.cond (.t 57) (.seq (.reg [⟨(some 2), none, (.mv (.k (.int .i32 65533)))⟩, 
  ⟨(some 3), none, (.mv (.k (.int .i64 1)))⟩]) .ret) .skip)) (.seq (.seq (.reg [⟨(some 58), none, (.mv (.t 8))⟩, ⟨(some 59), none, (.bin .leq (.t 58) (.k (.int .i64 2)))⟩]) 
  (.cond (.t 59) (.seq (.reg [⟨(some 60), none, (.mv (.t 5))⟩, ⟨(some 61), none, (.bin .and (.t 60) (.k (.int .u8 31)))⟩, ⟨(some 62), none, (.cvi .i32 (.t 61))⟩, 
  ⟨(some 63), none, (.bin .shl (.t 62) (.k (.int .u64 6)))⟩, ⟨(some 64), none, (.mv (.t 10))⟩, ⟨(some 65), none, (.bin .and (.t 64) (.k (.int .u8 63)))⟩, 
  ⟨(some 66), none, (.cvi .i32 (.t 65))⟩, ⟨(some 67), none, (.bin .or (.t 63) (.t 66))⟩, ⟨(some 2), none, (.mv (.t 67))⟩, ⟨(some 3), none, (.mv (.k (.int .i64 2)))⟩]) .ret) .skip)) 
  (.seq (.reg [⟨(some 68), none, (.mv (.t 0))⟩, ⟨(some 69), none, (.ixs (.t 68) (.k (.int .i64 2)))⟩, ⟨(some 11), none, (.mv (.t 69))⟩]) (.seq (.seq 
  (.reg [⟨(some 70), none, (.mv (.t 11))⟩, ⟨(some 71), none, (.bin .lss (.t 70) (.k (.int .u8 128)))⟩, ⟨(some 72), none, (.mv (.t 71))⟩, 
  ⟨(some 73), (some (72, false)), (.mv (.t 11))⟩, ⟨(some 74), (some (72, false)), (.bin .lss (.k (.int .u8 191)) (.t 73))⟩, 
  ⟨(some 75), none, (.pick (.t 72) (.k (.bool true)) (.t 74))⟩]) (.cond (.t 75) (.seq (.reg [⟨(some 2), none, (.mv (.k (.int .i32 65533)))⟩, 
  ⟨(some 3), none, (.mv (.k (.int .i64 1)))⟩]) .ret) .skip)) (.seq (.seq (.reg [⟨(some 76), none, (.mv (.t 8))⟩, ⟨(some 77), none, (.bin .leq (.t 76) (.k (.int .i64 3)))⟩]) 
  (.cond (.t 77) (.seq (.reg [⟨(some 78), none, (.mv (.t 5))⟩, ⟨(some 79), none, (.bin .and (.t 78) (.k (.int .u8 15)))⟩, ⟨(some 80), none, (.cvi .i32 (.t 79))⟩, 
  ⟨(some 81), none, (.bin .shl (.t 80) (.k (.int .u64 12)))⟩, ⟨(some 82), none, (.mv (.t 10))⟩, ⟨(some 83), none, (.bin .and (.t 82) (.k (.int .u8 63)))⟩, 
  ⟨(some 84), none, (.cvi .i32 (.t 83))⟩, ⟨(some 85), none, (.bin .shl (.t 84) (.k (.int .u64 6)))⟩, ⟨(some 86), none, (.bin .or (.t 81) (.t 85))⟩, ⟨(some 87), none, (.mv (.t 11))⟩, 
  ⟨(some 88), none, (.bin .and (.t 87) (.k (.int .u8 63)))⟩, ⟨(some 89), none, (.cvi .i32 (.t 88))⟩, ⟨(some 90), none, (.bin .or (.t 86) (.t 89))⟩, ⟨(some 2), none, (.mv (.t 90))⟩, 
  ⟨(some 3), none, (.mv (.k (.int .i64 3)))⟩]) .ret) .skip)) (.seq (.reg [⟨(some 91), none, (.mv (.t 0))⟩, ⟨(some 92), none, (.ixs (.t 91) (.k (.int .i64 3)))⟩, 
  ⟨(some 12), none, (.mv (.t 92))⟩]) (.seq (.seq (.reg [⟨(some 93), none, (.mv (.t 12))⟩, ⟨(some 94), none, (.bin .lss (.t 93) (.k (.int .u8 128)))⟩, 
  ⟨(some 95), none, (.mv (.t 94))⟩, ⟨(some 96), (some (95, false)), (.mv (.t 12))⟩, ⟨(some 97), (some (95, false)), (.bin .lss (.k (.int .u8 191)) (.t 96))⟩, 
  ⟨(some 98), none, (.pick (.t 95) (.k (.bool true)) (.t 97))⟩]) (.cond (.t 98) (.seq (.reg [⟨(some 2), none, (.mv (.k (.int .i32 65533)))⟩, 
  ⟨(some 3), none, (.mv (.k (.int .i64 1)))⟩]) .ret) .skip)) (.seq (.reg [⟨(some 99), none, (.mv (.t 5))⟩, ⟨(some 100), none, (.bin .and (.t 99) (.k (.int .u8 7)))⟩, 
  ⟨(some 101), none, (.cvi .i32 (.t 100))⟩, ⟨(some 102), none, (.bin .shl (.t 101) (.k (.int .u64 18)))⟩, ⟨(some 103), none, (.mv (.t 10))⟩, 
  ⟨(some 104), none, (.bin .and (.t 103) (.k (.int .u8 63)))⟩, ⟨(some 105), none, (.cvi .i32 (.t 104))⟩, ⟨(some 106), none, (.bin .shl (.t 105) (.k (.int .u64 12)))⟩, 
  ⟨(some 107), none, (.bin .or (.t 102) (.t 106))⟩, ⟨(some 108), none, (.mv (.t 11))⟩, ⟨(some 109), none, (.bin .and (.t 108) (.k (.int .u8 63)))⟩, 
  ⟨(some 110), none, (.cvi .i32 (.t 109))⟩, ⟨(some 111), none, (.bin .shl (.t 110) (.k (.int .u64 6)))⟩, ⟨(some 112), none, (.bin .or (.t 107) (.t 111))⟩, 
  ⟨(some 113), none, (.mv (.t 12))⟩, ⟨(some 114), none, (.bin .and (.t 113) (.k (.int .u8 63)))⟩, ⟨(some 115), none, (.cvi .i32 (.t 114))⟩, 
  ⟨(some 116), none, (.bin .or (.t 112) (.t 115))⟩, ⟨(some 2), none, (.mv (.t 116))⟩, ⟨(some 3), none, (.mv (.k (.int .i64 4)))⟩]) .ret))))))))))))))))))⟩
theorem c_utf8_decodeRuneInStringSlow : compF Tryd.prog ⟨none, none⟩ Tryd.f89 = some r_utf8_decodeRuneInStringSlow := by kernel_rfl
/-- strings.IndexRune -/
def r_strings_IndexRune : RF :=
  ⟨187, [(.tmp 4)], (.seq (.reg [⟨(some 4), none, (.mv (.k (.int .i64 0)))⟩]) (.block 0 (.seq (.reg [⟨(some 161), none, (.mv (.t 1))⟩, 
  ⟨(some 162), none, (.bin .leq (.k (.int .i32 0)) (.t 161))⟩, ⟨(some 163), none, (.mv (.t 162))⟩, ⟨(some 164), (some (163, true)), (.mv (.t 1))⟩, 
  ⟨(some 165), (some (163, true)), (.bin .lss (.t 164) (.k (.int .i32 128)))⟩, ⟨(some 166), none, (.pick (.t 163) (.t 165) (.k (.bool false)))⟩, ⟨(some 160), none, (.mv (.t 166))⟩]) 
  (.cond (.t 160) (.seq (.reg [⟨(some 167), none, (.mv (.t 0))⟩, ⟨(some 168), none, (.mv (.t 1))⟩, ⟨(some 169), none, (.cvi .u8 (.t 168))⟩, 
  ⟨(some 170), none, (.call f_strings_IndexByte [(.t 167), (.t 169)])⟩, ⟨(some 4), none, (.mv (.t 170))⟩]) .ret) (.seq (.reg [⟨(some 172), none, (.mv (.t 1))⟩, 
  ⟨(some 173), none, (.eq false .i (.t 172) (.k (.int .i32 65533)))⟩, ⟨(some 171), none, (.mv (.t 173))⟩]) (.cond (.t 171) (.seq (.seq (.reg [⟨(some 174), none, (.mv (.t 0))⟩, 
  ⟨(some 175), none, .fail⟩]) (.block 9 (.loop (.seq (.reg [⟨(some 176), none, .fail⟩, ⟨(some 177), none, (.ext 0 (.t 176))⟩]) (.seq (.cond (.t 177) .skip (.exit 9)) (.block 10 
  (.seq (.reg [⟨(some 178), none, (.ext 1 (.t 176))⟩, ⟨(some 179), none, (.ext 2 (.t 176))⟩, ⟨(some 5), none, (.mv (.t 178))⟩, ⟨(some 6), none, (.mv (.t 179))⟩]) (.seq 
  (.reg [⟨(some 180), none, (.mv (.t 6))⟩, ⟨(some 181), none, (.eq false .i (.t 180) (.k (.int .i32 65533)))⟩]) (.cond (.t 181) (.seq (.reg [⟨(some 182), none, (.mv (.t 5))⟩, 
  ⟨(some 4), none, (.mv (.t 182))⟩]) .ret) .skip))))))))) (.seq (.reg [⟨(some 4), none, (.mv (.k (.int .i64 (-1))))⟩]) .ret)) (.seq (.reg [⟨(some 184), none, (.mv (.t 1))⟩, 
  ⟨(some 185), none, (.call f_utf8_ValidRune [(.t 184)])⟩, ⟨(some 186), none, (.un .not (.t 185))⟩, ⟨(some 183), none, (.mv (.t 186))⟩]) (.cond (.t 183) (.seq 
  (.reg [⟨(some 4), none, (.mv (.k (.int .i64 (-1))))⟩]) .ret) .fail))))))))⟩
theorem c_strings_IndexRune : compF Tryd.prog ⟨none, none⟩ Tryd.f90 = some r_strings_IndexRune := by kernel_rfl
/-- unicode/utf8.RuneStart -/
def r_utf8_RuneStart : RF :=
  ⟨6, [(.tmp 2)], (.seq (.reg [⟨(some 2), none, (.mv (.k (.bool false)))⟩]) (.seq (.reg [⟨(some 3), none, (.mv (.t 0))⟩, ⟨(some 4), none, (.bin .and (.t 3) (.k (.int .u8 192)))⟩, 
  ⟨(some 5), none, (.eq true .i (.t 4) (.k (.int .u8 128)))⟩, ⟨(some 2), none, (.mv (.t 5))⟩]) .ret))⟩
theorem c_utf8_RuneStart : compF Tryd.prog ⟨none, none⟩ Tryd.f91 = some r_utf8_RuneStart := by kernel_rfl
/-- strings.IndexByte -/
def r_strings_IndexByte : RF :=
  ⟨8, [(.tmp 4)], (.seq (.reg [⟨(some 4), none, (.mv (.k (.int .i64 0)))⟩]) (.seq (.reg [⟨(some 5), none, (.mv (.t 0))⟩, ⟨(some 6), none, (.mv (.t 1))⟩, 
  ⟨(some 7), none, (.call f_stringslite_IndexByte [(.t 5), (.t 6)])⟩, ⟨(some 4), none, (.mv (.t 7))⟩]) .ret))⟩
theorem c_strings_IndexByte : compF Tryd.prog ⟨none, none⟩ Tryd.f92 = some r_strings_IndexByte := by kernel_rfl
/-- unicode/utf8.ValidRune -/
def r_utf8_ValidRune : RF :=
  ⟨17, [(.tmp 2)], (.seq (.reg [⟨(some 2), none, (.mv (.k (.bool false)))⟩]) (.seq (.block 0 (.seq (.reg [⟨(some 4), none, (.mv (.t 0))⟩, 
  ⟨(some 5), none, (.bin .leq (.k (.int .i32 0)) (.t 4))⟩, ⟨(some 6), none, (.mv (.t 5))⟩, ⟨(some 7), (some (6, true)), (.mv (.t 0))⟩, 
  ⟨(some 8), (some (6, true)), (.bin .lss (.t 7) (.k (.int .i32 55296)))⟩, ⟨(some 9), none, (.pick (.t 6) (.t 8) (.k (.bool false)))⟩, ⟨(some 3), none, (.mv (.t 9))⟩]) (.cond (.t 3) 
  (.seq (.reg [⟨(some 2), none, (.mv (.k (.bool true)))⟩]) .ret) (.seq (.reg [⟨(some 11), none, (.mv (.t 0))⟩, ⟨(some 12), none, (.bin .lss (.k (.int .i32 57343)) (.t 11))⟩, 
  ⟨(some 13), none, (.mv (.t 12))⟩, ⟨(some 14), (some (13, true)), (.mv (.t 0))⟩, ⟨(some 15), (some (13, true)), (.bin .leq (.t 14) (.k (.int .i32 1114111)))⟩, 
  ⟨(some 16), none, (.pick (.t 13) (.t 15) (.k (.bool false)))⟩, ⟨(some 10), none, (.mv (.t 16))⟩]) (.cond (.t 10) (.seq 
  (.reg [⟨(some 2), none, (.mv (.k (.bool true)))⟩]) .ret) .skip))))) (.seq (.reg [⟨(some 2), none, (.mv (.k (.bool false)))⟩]) .ret)))⟩
theorem c_utf8_ValidRune : compF Tryd.prog ⟨none, none⟩ Tryd.f93 = some r_utf8_ValidRune := by kernel_rfl
/-- internal/bytealg.Cutover -/
def r_bytealg_Cutover : RF :=
  ⟨6, [(.tmp 2)], (.seq (.reg [⟨(some 2), none, (.mv (.k (.int .i64 0)))⟩]) (.seq (.reg [⟨(some 3), none, (.mv (.t 0))⟩, ⟨(some 4), none, (.bin .add (.t 3) (.k (.int .i64 16)))⟩, 
  ⟨(some 5), none, (.bin .quo (.t 4) (.k (.int .i64 8)))⟩, ⟨(some 2), none, (.mv (.t 5))⟩]) .ret))⟩
theorem c_bytealg_Cutover : compF Tryd.prog ⟨none, none⟩ Tryd.f94 = some r_bytealg_Cutover := by kernel_rfl
/-- internal/stringslite.IndexByte -/
def r_stringslite_IndexByte : RF :=
  ⟨8, [(.tmp 4)], (.seq (.reg [⟨(some 4), none, (.mv (.k (.int .i64 0)))⟩]) (.seq (.reg [⟨(some 5), none, (.mv (.t 0))⟩, ⟨(some 6), none, (.mv (.t 1))⟩, 
  ⟨(some 7), none, (.call 97 [(.t 5), (.t 6)])⟩, ⟨(some 4), none, (.mv (.t 7))⟩]) .ret))⟩
theorem c_stringslite_IndexByte : compF Tryd.prog ⟨none, none⟩ Tryd.f96 = some r_stringslite_IndexByte := by kernel_rfl
/-- gosem.cut.vars -/
def r_gosem_cut_vars : RF :=
  ⟨6, [], (.reg [⟨(some 0), none, (.bld [(.int .u8 0), (.int .u8 0)] [(0, (1, (.k (.int .u8 128)))), (1, (1, (.k (.int .u8 191))))])⟩, 
  ⟨(some 1), none, (.bld [(.int .u8 0), (.int .u8 0)] [(0, (1, (.k (.int .u8 160)))), (1, (1, (.k (.int .u8 191))))])⟩, 
  ⟨(some 2), none, (.bld [(.int .u8 0), (.int .u8 0)] [(0, (1, (.k (.int .u8 128)))), (1, (1, (.k (.int .u8 159))))])⟩, 
  ⟨(some 3), none, (.bld [(.int .u8 0), (.int .u8 0)] [(0, (1, (.k (.int .u8 144)))), (1, (1, (.k (.int .u8 191))))])⟩, 
  ⟨(some 4), none, (.bld [(.int .u8 0), (.int .u8 0)] [(0, (1, (.k (.int .u8 128)))), (1, (1, (.k (.int .u8 143))))])⟩, 
  ⟨(some 5), none, (.bld [(.int .u8 0), (.int .u8 0), (.int .u8 0), (.int .u8 0), (.int .u8 0), (.int .u8 0), (.int .u8 0), (.int .u8 0), (.int .u8 0), (.int .u8 0), (.int .u8 0), (.int .u8 0), (.int .u8 0), (.int .u8 0), (.int .u8 0), (.int .u8 0), (.int .u8 0), (.int .u8 0), (.int .u8 0), (.int .u8 0), (.int .u8 0), (.int .u8 0), (.int .u8 0), (.int .u8 0), (.int .u8 0), (.int .u8 0), (.int .u8 0), (.int .u8 0), (.int .u8 0), (.int .u8 0), (.int .u8 0), (.int .u8 0)] [(0, (2, (.t 0))), (2, (2, (.t 1))), (4, (2, (.t 2))), (6, (2, (.t 3))), (8, (2, (.t 4)))])⟩, 
  ⟨none, none, .fail⟩])⟩
theorem c_gosem_cut_vars : compF Tryd.prog ⟨none, none⟩ Tryd.f118 = some r_gosem_cut_vars := by kernel_rfl
def ex0 : Ex := ⟨none, none⟩
def tbl0 : List (Nat × RF) := [(f_gosem_cut_init, r_gosem_cut_init), (f_w06_FilesExact, r_w06_FilesExact), (f_w06_awake, r_w06_awake), (f_files_New, r_files_New), (f_files_Disk_Append, r_files_Disk_Append), (f_files_Disk_Sync, r_files_Disk_Sync), (f_files_Disk_Read, r_files_Disk_Read), (f_files_Disk_Safe, r_files_Disk_Safe), (f_files_Disk_Off, r_files_Disk_Off), (f_files_Disk_Down, r_files_Disk_Down), (f_files_Disk_On, r_files_Disk_On), (f_files_Disk_Names, r_files_Disk_Names), (f_files_Disk_Rename, r_files_Disk_Rename), (f_w06_names, r_w06_names), (f_files_Disk_Delete, r_files_Disk_Delete), (f_r06_New, r_r06_New), (f_w06_right, r_w06_right), (f_r06_Disk_Down, r_r06_Disk_Down), (f_files_Disk_Steps, r_files_Disk_Steps), (f_r06_Disk_Steps, r_r06_Disk_Steps), (f_r06_Disk_Safe, r_r06_Disk_Safe), (f_r06_Disk_Names, r_r06_Disk_Names), (f_r06_Disk_On, r_r06_Disk_On), (f_r06_Disk_Read, r_r06_Disk_Read), (f_files_Disk_Arm, r_files_Disk_Arm), (f_w06_act, r_w06_act), (f_files_Disk_find, r_files_Disk_find), (f_files_Disk_spend, r_files_Disk_spend), (f_maps_Keys_file, r_maps_Keys_file), (f_files_Disk_check, r_files_Disk_check), (f_r06_Disk_Append, r_r06_Disk_Append), (f_r06_Disk_Sync, r_r06_Disk_Sync), (f_files_Disk_Cut, r_files_Disk_Cut), (f_r06_Disk_Cut, r_r06_Disk_Cut), (f_r06_Disk_Rename, r_r06_Disk_Rename), (f_r06_Disk_Delete, r_r06_Disk_Delete), (f_r06_Disk_Arm, r_r06_Disk_Arm), (f_r06_Disk_Off, r_r06_Disk_Off), (f_r06_Disk_place, r_r06_Disk_place), (f_r06_Disk_check, r_r06_Disk_check), (f_slices_Sort_string, r_slices_Sort_string), (f_maps_Keys_1_file, r_maps_Keys_1_file), (f_files_isName, r_files_isName), (f_r06_Disk_put, r_r06_Disk_put), (f_r06_Disk_power, r_r06_Disk_power), (f_r06_Disk_take, r_r06_Disk_take), (f_r06_Disk_goes, r_r06_Disk_goes), (f_r06_Name, r_r06_Name), (f_slices_pdqsortOrdered_string, r_slices_pdqsortOrdered_string), (f_bits_Len, r_bits_Len), (f_strings_Trim, r_strings_Trim), (f_slices_insertionSortOrdered_string, r_slices_insertionSortOrdered_string), (f_slices_heapSortOrdered_string, r_slices_heapSortOrdered_string), (f_slices_breakPatternsOrdered_string, r_slices_breakPatternsOrdered_string), (f_slices_choosePivotOrdered_string, r_slices_choosePivotOrdered_string), (f_slices_reverseRangeOrdered_string, r_slices_reverseRangeOrdered_string), (f_slices_partialInsertionSortOrdered_string, r_slices_partialInsertionSortOrdered_string), (f_cmp_Less_string, r_cmp_Less_string), (f_slices_partitionEqualOrdered_string, r_slices_partitionEqualOrdered_string), (f_slices_partitionOrdered_string, r_slices_partitionOrdered_string), (f_bits_Len32, r_bits_Len32), (f_bits_Len64, r_bits_Len64), (f_strings_trimLeftByte, r_strings_trimLeftByte), (f_strings_trimRightByte, r_strings_trimRightByte), (f_strings_makeASCIISet, r_strings_makeASCIISet), (f_strings_trimLeftASCII, r_strings_trimLeftASCII), (f_strings_trimRightASCII, r_strings_trimRightASCII), (f_strings_trimLeftUnicode, r_strings_trimLeftUnicode), (f_strings_trimRightUnicode, r_strings_trimRightUnicode), (f_slices_siftDownOrdered_string, r_slices_siftDownOrdered_string), (f_slices_nextPowerOfTwo, r_slices_nextPowerOfTwo), (f_slices_xorshift_Next, r_slices_xorshift_Next), (f_slices_medianAdjacentOrdered_string, r_slices_medianAdjacentOrdered_string), (f_slices_medianOrdered_string, r_slices_medianOrdered_string), (f_cmp_isNaN_string, r_cmp_isNaN_string), (f_strings_asciiSet_contains, r_strings_asciiSet_contains), (f_utf8_DecodeRuneInString, r_utf8_DecodeRuneInString), (f_strings_ContainsRune, r_strings_ContainsRune), (f_utf8_DecodeLastRuneInString, r_utf8_DecodeLastRuneInString), (f_slices_order2Ordered_string, r_slices_order2Ordered_string), (f_utf8_decodeRuneInStringSlow, r_utf8_decodeRuneInStringSlow), (f_strings_IndexRune, r_strings_IndexRune), (f_utf8_RuneStart, r_utf8_RuneStart), (f_strings_IndexByte, r_strings_IndexByte), (f_utf8_ValidRune, r_utf8_ValidRune), (f_bytealg_Cutover, r_bytealg_Cutover), (f_stringslite_IndexByte, r_stringslite_IndexByte), (f_gosem_cut_vars, r_gosem_cut_vars)]
def T0 (f : Nat) : Option RF := tbl0.lookup f
/-- A table that has these functions. -/
class Has (T : Nat → Option RF) : Prop where
  sub : ∀ f F, T0 f = some F → T f = some F
instance : Has T0 := ⟨fun _ _ h => h⟩
theorem has {T : Nat → Option RF} [h : Has T] {f : Nat} {F : RF} (e : T0 f = some F) : T f = some F := h.sub f F e
theorem lookup_mem {f : Nat} {F : RF} : ∀ {l : List (Nat × RF)}, l.lookup f = some F → (f, F) ∈ l
  | [], h => by simp at h
  | (g, G) :: l, h => by
    simp only [List.lookup] at h
    split at h
    · rename_i he; simp at he h; subst he; subst h; simp
    · exact List.mem_cons_of_mem _ (lookup_mem h)
structure TF (x : Nat × RF) : Prop where
  ok : ∃ fn, Tryd.prog.funcs[x.1]? = some fn ∧ (fn.name == "runtime.NumGoroutine") = false ∧ compF Tryd.prog ex0 fn = some x.2
theorem k_gosem_cut_init : TF (f_gosem_cut_init, r_gosem_cut_init) := ⟨Tryd.f2, Tryd.func2, by kernel_rfl, c_gosem_cut_init⟩
theorem k_w06_FilesExact : TF (f_w06_FilesExact, r_w06_FilesExact) := ⟨Tryd.f5, Tryd.func5, by kernel_rfl, c_w06_FilesExact⟩
theorem k_w06_awake : TF (f_w06_awake, r_w06_awake) := ⟨Tryd.f7, Tryd.func7, by kernel_rfl, c_w06_awake⟩
theorem k_files_New : TF (f_files_New, r_files_New) := ⟨Tryd.f8, Tryd.func8, by kernel_rfl, c_files_New⟩
theorem k_files_Disk_Append : TF (f_files_Disk_Append, r_files_Disk_Append) := ⟨Tryd.f9, Tryd.func9, by kernel_rfl, c_files_Disk_Append⟩
theorem k_files_Disk_Sync : TF (f_files_Disk_Sync, r_files_Disk_Sync) := ⟨Tryd.f10, Tryd.func10, by kernel_rfl, c_files_Disk_Sync⟩
theorem k_files_Disk_Read : TF (f_files_Disk_Read, r_files_Disk_Read) := ⟨Tryd.f11, Tryd.func11, by kernel_rfl, c_files_Disk_Read⟩
theorem k_files_Disk_Safe : TF (f_files_Disk_Safe, r_files_Disk_Safe) := ⟨Tryd.f12, Tryd.func12, by kernel_rfl, c_files_Disk_Safe⟩
theorem k_files_Disk_Off : TF (f_files_Disk_Off, r_files_Disk_Off) := ⟨Tryd.f13, Tryd.func13, by kernel_rfl, c_files_Disk_Off⟩
theorem k_files_Disk_Down : TF (f_files_Disk_Down, r_files_Disk_Down) := ⟨Tryd.f14, Tryd.func14, by kernel_rfl, c_files_Disk_Down⟩
theorem k_files_Disk_On : TF (f_files_Disk_On, r_files_Disk_On) := ⟨Tryd.f15, Tryd.func15, by kernel_rfl, c_files_Disk_On⟩
theorem k_files_Disk_Names : TF (f_files_Disk_Names, r_files_Disk_Names) := ⟨Tryd.f16, Tryd.func16, by kernel_rfl, c_files_Disk_Names⟩
theorem k_files_Disk_Rename : TF (f_files_Disk_Rename, r_files_Disk_Rename) := ⟨Tryd.f17, Tryd.func17, by kernel_rfl, c_files_Disk_Rename⟩
theorem k_w06_names : TF (f_w06_names, r_w06_names) := ⟨Tryd.f18, Tryd.func18, by kernel_rfl, c_w06_names⟩
theorem k_files_Disk_Delete : TF (f_files_Disk_Delete, r_files_Disk_Delete) := ⟨Tryd.f19, Tryd.func19, by kernel_rfl, c_files_Disk_Delete⟩
theorem k_r06_New : TF (f_r06_New, r_r06_New) := ⟨Tryd.f20, Tryd.func20, by kernel_rfl, c_r06_New⟩
theorem k_w06_right : TF (f_w06_right, r_w06_right) := ⟨Tryd.f21, Tryd.func21, by kernel_rfl, c_w06_right⟩
theorem k_r06_Disk_Down : TF (f_r06_Disk_Down, r_r06_Disk_Down) := ⟨Tryd.f22, Tryd.func22, by kernel_rfl, c_r06_Disk_Down⟩
theorem k_files_Disk_Steps : TF (f_files_Disk_Steps, r_files_Disk_Steps) := ⟨Tryd.f23, Tryd.func23, by kernel_rfl, c_files_Disk_Steps⟩
theorem k_r06_Disk_Steps : TF (f_r06_Disk_Steps, r_r06_Disk_Steps) := ⟨Tryd.f24, Tryd.func24, by kernel_rfl, c_r06_Disk_Steps⟩
theorem k_r06_Disk_Safe : TF (f_r06_Disk_Safe, r_r06_Disk_Safe) := ⟨Tryd.f25, Tryd.func25, by kernel_rfl, c_r06_Disk_Safe⟩
theorem k_r06_Disk_Names : TF (f_r06_Disk_Names, r_r06_Disk_Names) := ⟨Tryd.f26, Tryd.func26, by kernel_rfl, c_r06_Disk_Names⟩
theorem k_r06_Disk_On : TF (f_r06_Disk_On, r_r06_Disk_On) := ⟨Tryd.f27, Tryd.func27, by kernel_rfl, c_r06_Disk_On⟩
theorem k_r06_Disk_Read : TF (f_r06_Disk_Read, r_r06_Disk_Read) := ⟨Tryd.f28, Tryd.func28, by kernel_rfl, c_r06_Disk_Read⟩
theorem k_files_Disk_Arm : TF (f_files_Disk_Arm, r_files_Disk_Arm) := ⟨Tryd.f29, Tryd.func29, by kernel_rfl, c_files_Disk_Arm⟩
theorem k_w06_act : TF (f_w06_act, r_w06_act) := ⟨Tryd.f30, Tryd.func30, by kernel_rfl, c_w06_act⟩
theorem k_files_Disk_find : TF (f_files_Disk_find, r_files_Disk_find) := ⟨Tryd.f31, Tryd.func31, by kernel_rfl, c_files_Disk_find⟩
theorem k_files_Disk_spend : TF (f_files_Disk_spend, r_files_Disk_spend) := ⟨Tryd.f32, Tryd.func32, by kernel_rfl, c_files_Disk_spend⟩
theorem k_maps_Keys_file : TF (f_maps_Keys_file, r_maps_Keys_file) := ⟨Tryd.f35, Tryd.func35, by kernel_rfl, c_maps_Keys_file⟩
theorem k_files_Disk_check : TF (f_files_Disk_check, r_files_Disk_check) := ⟨Tryd.f36, Tryd.func36, by kernel_rfl, c_files_Disk_check⟩
theorem k_r06_Disk_Append : TF (f_r06_Disk_Append, r_r06_Disk_Append) := ⟨Tryd.f37, Tryd.func37, by kernel_rfl, c_r06_Disk_Append⟩
theorem k_r06_Disk_Sync : TF (f_r06_Disk_Sync, r_r06_Disk_Sync) := ⟨Tryd.f38, Tryd.func38, by kernel_rfl, c_r06_Disk_Sync⟩
theorem k_files_Disk_Cut : TF (f_files_Disk_Cut, r_files_Disk_Cut) := ⟨Tryd.f39, Tryd.func39, by kernel_rfl, c_files_Disk_Cut⟩
theorem k_r06_Disk_Cut : TF (f_r06_Disk_Cut, r_r06_Disk_Cut) := ⟨Tryd.f40, Tryd.func40, by kernel_rfl, c_r06_Disk_Cut⟩
theorem k_r06_Disk_Rename : TF (f_r06_Disk_Rename, r_r06_Disk_Rename) := ⟨Tryd.f41, Tryd.func41, by kernel_rfl, c_r06_Disk_Rename⟩
theorem k_r06_Disk_Delete : TF (f_r06_Disk_Delete, r_r06_Disk_Delete) := ⟨Tryd.f42, Tryd.func42, by kernel_rfl, c_r06_Disk_Delete⟩
theorem k_r06_Disk_Arm : TF (f_r06_Disk_Arm, r_r06_Disk_Arm) := ⟨Tryd.f43, Tryd.func43, by kernel_rfl, c_r06_Disk_Arm⟩
theorem k_r06_Disk_Off : TF (f_r06_Disk_Off, r_r06_Disk_Off) := ⟨Tryd.f44, Tryd.func44, by kernel_rfl, c_r06_Disk_Off⟩
theorem k_r06_Disk_place : TF (f_r06_Disk_place, r_r06_Disk_place) := ⟨Tryd.f45, Tryd.func45, by kernel_rfl, c_r06_Disk_place⟩
theorem k_r06_Disk_check : TF (f_r06_Disk_check, r_r06_Disk_check) := ⟨Tryd.f46, Tryd.func46, by kernel_rfl, c_r06_Disk_check⟩
theorem k_slices_Sort_string : TF (f_slices_Sort_string, r_slices_Sort_string) := ⟨Tryd.f48, Tryd.func48, by kernel_rfl, c_slices_Sort_string⟩
theorem k_maps_Keys_1_file : TF (f_maps_Keys_1_file, r_maps_Keys_1_file) := ⟨Tryd.f49, Tryd.func49, by kernel_rfl, c_maps_Keys_1_file⟩
theorem k_files_isName : TF (f_files_isName, r_files_isName) := ⟨Tryd.f50, Tryd.func50, by kernel_rfl, c_files_isName⟩
theorem k_r06_Disk_put : TF (f_r06_Disk_put, r_r06_Disk_put) := ⟨Tryd.f51, Tryd.func51, by kernel_rfl, c_r06_Disk_put⟩
theorem k_r06_Disk_power : TF (f_r06_Disk_power, r_r06_Disk_power) := ⟨Tryd.f52, Tryd.func52, by kernel_rfl, c_r06_Disk_power⟩
theorem k_r06_Disk_take : TF (f_r06_Disk_take, r_r06_Disk_take) := ⟨Tryd.f53, Tryd.func53, by kernel_rfl, c_r06_Disk_take⟩
theorem k_r06_Disk_goes : TF (f_r06_Disk_goes, r_r06_Disk_goes) := ⟨Tryd.f54, Tryd.func54, by kernel_rfl, c_r06_Disk_goes⟩
theorem k_r06_Name : TF (f_r06_Name, r_r06_Name) := ⟨Tryd.f55, Tryd.func55, by kernel_rfl, c_r06_Name⟩
theorem k_slices_pdqsortOrdered_string : TF (f_slices_pdqsortOrdered_string, r_slices_pdqsortOrdered_string) := ⟨Tryd.f57, Tryd.func57, by kernel_rfl, c_slices_pdqsortOrdered_string⟩
theorem k_bits_Len : TF (f_bits_Len, r_bits_Len) := ⟨Tryd.f58, Tryd.func58, by kernel_rfl, c_bits_Len⟩
theorem k_strings_Trim : TF (f_strings_Trim, r_strings_Trim) := ⟨Tryd.f59, Tryd.func59, by kernel_rfl, c_strings_Trim⟩
theorem k_slices_insertionSortOrdered_string : TF (f_slices_insertionSortOrdered_string, r_slices_insertionSortOrdered_string) := ⟨Tryd.f60, Tryd.func60, by kernel_rfl, c_slices_insertionSortOrdered_string⟩
theorem k_slices_heapSortOrdered_string : TF (f_slices_heapSortOrdered_string, r_slices_heapSortOrdered_string) := ⟨Tryd.f61, Tryd.func61, by kernel_rfl, c_slices_heapSortOrdered_string⟩
theorem k_slices_breakPatternsOrdered_string : TF (f_slices_breakPatternsOrdered_string, r_slices_breakPatternsOrdered_string) := ⟨Tryd.f62, Tryd.func62, by kernel_rfl, c_slices_breakPatternsOrdered_string⟩
theorem k_slices_choosePivotOrdered_string : TF (f_slices_choosePivotOrdered_string, r_slices_choosePivotOrdered_string) := ⟨Tryd.f63, Tryd.func63, by kernel_rfl, c_slices_choosePivotOrdered_string⟩
theorem k_slices_reverseRangeOrdered_string : TF (f_slices_reverseRangeOrdered_string, r_slices_reverseRangeOrdered_string) := ⟨Tryd.f64, Tryd.func64, by kernel_rfl, c_slices_reverseRangeOrdered_string⟩
theorem k_slices_partialInsertionSortOrdered_string : TF (f_slices_partialInsertionSortOrdered_string, r_slices_partialInsertionSortOrdered_string) := ⟨Tryd.f65, Tryd.func65, by kernel_rfl, c_slices_partialInsertionSortOrdered_string⟩
theorem k_cmp_Less_string : TF (f_cmp_Less_string, r_cmp_Less_string) := ⟨Tryd.f66, Tryd.func66, by kernel_rfl, c_cmp_Less_string⟩
theorem k_slices_partitionEqualOrdered_string : TF (f_slices_partitionEqualOrdered_string, r_slices_partitionEqualOrdered_string) := ⟨Tryd.f67, Tryd.func67, by kernel_rfl, c_slices_partitionEqualOrdered_string⟩
theorem k_slices_partitionOrdered_string : TF (f_slices_partitionOrdered_string, r_slices_partitionOrdered_string) := ⟨Tryd.f68, Tryd.func68, by kernel_rfl, c_slices_partitionOrdered_string⟩
theorem k_bits_Len32 : TF (f_bits_Len32, r_bits_Len32) := ⟨Tryd.f69, Tryd.func69, by kernel_rfl, c_bits_Len32⟩
theorem k_bits_Len64 : TF (f_bits_Len64, r_bits_Len64) := ⟨Tryd.f70, Tryd.func70, by kernel_rfl, c_bits_Len64⟩
theorem k_strings_trimLeftByte : TF (f_strings_trimLeftByte, r_strings_trimLeftByte) := ⟨Tryd.f71, Tryd.func71, by kernel_rfl, c_strings_trimLeftByte⟩
theorem k_strings_trimRightByte : TF (f_strings_trimRightByte, r_strings_trimRightByte) := ⟨Tryd.f72, Tryd.func72, by kernel_rfl, c_strings_trimRightByte⟩
theorem k_strings_makeASCIISet : TF (f_strings_makeASCIISet, r_strings_makeASCIISet) := ⟨Tryd.f73, Tryd.func73, by kernel_rfl, c_strings_makeASCIISet⟩
theorem k_strings_trimLeftASCII : TF (f_strings_trimLeftASCII, r_strings_trimLeftASCII) := ⟨Tryd.f74, Tryd.func74, by kernel_rfl, c_strings_trimLeftASCII⟩
theorem k_strings_trimRightASCII : TF (f_strings_trimRightASCII, r_strings_trimRightASCII) := ⟨Tryd.f75, Tryd.func75, by kernel_rfl, c_strings_trimRightASCII⟩
theorem k_strings_trimLeftUnicode : TF (f_strings_trimLeftUnicode, r_strings_trimLeftUnicode) := ⟨Tryd.f76, Tryd.func76, by kernel_rfl, c_strings_trimLeftUnicode⟩
theorem k_strings_trimRightUnicode : TF (f_strings_trimRightUnicode, r_strings_trimRightUnicode) := ⟨Tryd.f77, Tryd.func77, by kernel_rfl, c_strings_trimRightUnicode⟩
theorem k_slices_siftDownOrdered_string : TF (f_slices_siftDownOrdered_string, r_slices_siftDownOrdered_string) := ⟨Tryd.f78, Tryd.func78, by kernel_rfl, c_slices_siftDownOrdered_string⟩
theorem k_slices_nextPowerOfTwo : TF (f_slices_nextPowerOfTwo, r_slices_nextPowerOfTwo) := ⟨Tryd.f79, Tryd.func79, by kernel_rfl, c_slices_nextPowerOfTwo⟩
theorem k_slices_xorshift_Next : TF (f_slices_xorshift_Next, r_slices_xorshift_Next) := ⟨Tryd.f80, Tryd.func80, by kernel_rfl, c_slices_xorshift_Next⟩
theorem k_slices_medianAdjacentOrdered_string : TF (f_slices_medianAdjacentOrdered_string, r_slices_medianAdjacentOrdered_string) := ⟨Tryd.f81, Tryd.func81, by kernel_rfl, c_slices_medianAdjacentOrdered_string⟩
theorem k_slices_medianOrdered_string : TF (f_slices_medianOrdered_string, r_slices_medianOrdered_string) := ⟨Tryd.f82, Tryd.func82, by kernel_rfl, c_slices_medianOrdered_string⟩
theorem k_cmp_isNaN_string : TF (f_cmp_isNaN_string, r_cmp_isNaN_string) := ⟨Tryd.f83, Tryd.func83, by kernel_rfl, c_cmp_isNaN_string⟩
theorem k_strings_asciiSet_contains : TF (f_strings_asciiSet_contains, r_strings_asciiSet_contains) := ⟨Tryd.f84, Tryd.func84, by kernel_rfl, c_strings_asciiSet_contains⟩
theorem k_utf8_DecodeRuneInString : TF (f_utf8_DecodeRuneInString, r_utf8_DecodeRuneInString) := ⟨Tryd.f85, Tryd.func85, by kernel_rfl, c_utf8_DecodeRuneInString⟩
theorem k_strings_ContainsRune : TF (f_strings_ContainsRune, r_strings_ContainsRune) := ⟨Tryd.f86, Tryd.func86, by kernel_rfl, c_strings_ContainsRune⟩
theorem k_utf8_DecodeLastRuneInString : TF (f_utf8_DecodeLastRuneInString, r_utf8_DecodeLastRuneInString) := ⟨Tryd.f87, Tryd.func87, by kernel_rfl, c_utf8_DecodeLastRuneInString⟩
theorem k_slices_order2Ordered_string : TF (f_slices_order2Ordered_string, r_slices_order2Ordered_string) := ⟨Tryd.f88, Tryd.func88, by kernel_rfl, c_slices_order2Ordered_string⟩
theorem k_utf8_decodeRuneInStringSlow : TF (f_utf8_decodeRuneInStringSlow, r_utf8_decodeRuneInStringSlow) := ⟨Tryd.f89, Tryd.func89, by kernel_rfl, c_utf8_decodeRuneInStringSlow⟩
theorem k_strings_IndexRune : TF (f_strings_IndexRune, r_strings_IndexRune) := ⟨Tryd.f90, Tryd.func90, by kernel_rfl, c_strings_IndexRune⟩
theorem k_utf8_RuneStart : TF (f_utf8_RuneStart, r_utf8_RuneStart) := ⟨Tryd.f91, Tryd.func91, by kernel_rfl, c_utf8_RuneStart⟩
theorem k_strings_IndexByte : TF (f_strings_IndexByte, r_strings_IndexByte) := ⟨Tryd.f92, Tryd.func92, by kernel_rfl, c_strings_IndexByte⟩
theorem k_utf8_ValidRune : TF (f_utf8_ValidRune, r_utf8_ValidRune) := ⟨Tryd.f93, Tryd.func93, by kernel_rfl, c_utf8_ValidRune⟩
theorem k_bytealg_Cutover : TF (f_bytealg_Cutover, r_bytealg_Cutover) := ⟨Tryd.f94, Tryd.func94, by kernel_rfl, c_bytealg_Cutover⟩
theorem k_stringslite_IndexByte : TF (f_stringslite_IndexByte, r_stringslite_IndexByte) := ⟨Tryd.f96, Tryd.func96, by kernel_rfl, c_stringslite_IndexByte⟩
theorem k_gosem_cut_vars : TF (f_gosem_cut_vars, r_gosem_cut_vars) := ⟨Tryd.f118, Tryd.func118, by kernel_rfl, c_gosem_cut_vars⟩
theorem tbl0_ok : ∀ x ∈ tbl0, TF x := by
  unfold tbl0
  simp only [List.forall_mem_cons]
  exact ⟨k_gosem_cut_init, k_w06_FilesExact, k_w06_awake, k_files_New, k_files_Disk_Append, k_files_Disk_Sync, k_files_Disk_Read, k_files_Disk_Safe, k_files_Disk_Off, k_files_Disk_Down, k_files_Disk_On, k_files_Disk_Names, k_files_Disk_Rename, k_w06_names, k_files_Disk_Delete, k_r06_New, k_w06_right, k_r06_Disk_Down, k_files_Disk_Steps, k_r06_Disk_Steps, k_r06_Disk_Safe, k_r06_Disk_Names, k_r06_Disk_On, k_r06_Disk_Read, k_files_Disk_Arm, k_w06_act, k_files_Disk_find, k_files_Disk_spend, k_maps_Keys_file, k_files_Disk_check, k_r06_Disk_Append, k_r06_Disk_Sync, k_files_Disk_Cut, k_r06_Disk_Cut, k_r06_Disk_Rename, k_r06_Disk_Delete, k_r06_Disk_Arm, k_r06_Disk_Off, k_r06_Disk_place, k_r06_Disk_check, k_slices_Sort_string, k_maps_Keys_1_file, k_files_isName, k_r06_Disk_put, k_r06_Disk_power, k_r06_Disk_take, k_r06_Disk_goes, k_r06_Name, k_slices_pdqsortOrdered_string, k_bits_Len, k_strings_Trim, k_slices_insertionSortOrdered_string, k_slices_heapSortOrdered_string, k_slices_breakPatternsOrdered_string, k_slices_choosePivotOrdered_string, k_slices_reverseRangeOrdered_string, k_slices_partialInsertionSortOrdered_string, k_cmp_Less_string, k_slices_partitionEqualOrdered_string, k_slices_partitionOrdered_string, k_bits_Len32, k_bits_Len64, k_strings_trimLeftByte, k_strings_trimRightByte, k_strings_makeASCIISet, k_strings_trimLeftASCII, k_strings_trimRightASCII, k_strings_trimLeftUnicode, k_strings_trimRightUnicode, k_slices_siftDownOrdered_string, k_slices_nextPowerOfTwo, k_slices_xorshift_Next, k_slices_medianAdjacentOrdered_string, k_slices_medianOrdered_string, k_cmp_isNaN_string, k_strings_asciiSet_contains, k_utf8_DecodeRuneInString, k_strings_ContainsRune, k_utf8_DecodeLastRuneInString, k_slices_order2Ordered_string, k_utf8_decodeRuneInStringSlow, k_strings_IndexRune, k_utf8_RuneStart, k_strings_IndexByte, k_utf8_ValidRune, k_bytealg_Cutover, k_stringslite_IndexByte, k_gosem_cut_vars, by simp⟩
theorem tok0 : TOK Tryd.prog ex0 T0 := ⟨fun f F h => .inl (tbl0_ok _ (lookup_mem h)).ok⟩
theorem exok : ExOK Tryd.prog ex0 := ⟨fun f h => (by cases h), fun f h => (by cases h)⟩
theorem mixed : Tryd.prog.follows .mixedOrders = true := by kernel_rfl
theorem sound0 : XS Tryd.prog (Run T0) := run_sound exok mixed tok0
end Go.Ev
