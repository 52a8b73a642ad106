import Derived.Test.YtakjhoigkpikfaaDoorZWalExact2
import Derived.Test.YtakjhoigkpikfaaDoorProg
/-! The functions of the program, compiled. Printed by genfs.py, a program of this session, out of what `compF` comes to. -/
namespace Go.Ev
open Go.Proofs
set_option maxRecDepth 100000
abbrev f_gosem_cut_init : Nat := 2
abbrev f_w07_WalScans : Nat := 3
abbrev f_w07_WalSpoilt : Nat := 4
abbrev f_w07_WalCrash : Nat := 5
abbrev f_w07_WalExact : Nat := 6
abbrev f_w07_awake : Nat := 7
abbrev f_wal_Frame : Nat := 8
abbrev f_r07_Frame : Nat := 9
abbrev f_wal_Scan : Nat := 10
abbrev f_r07_Scan : Nat := 11
abbrev f_w07_same : Nat := 12
abbrev f_files_New : Nat := 13
abbrev f_wal_Open : Nat := 14
abbrev f_files_Disk_Arm : Nat := 15
abbrev f_files_Disk_Down : Nat := 16
abbrev f_wal_Log_Append : Nat := 17
abbrev f_wal_Log_Sync : Nat := 18
abbrev f_files_Disk_Off : Nat := 19
abbrev f_files_Disk_On : Nat := 20
abbrev f_r06_New : Nat := 21
abbrev f_r07_Open : Nat := 22
abbrev f_r07_Log_Append : Nat := 23
abbrev f_r07_Log_Sync : Nat := 24
abbrev f_r06_Disk_Arm : Nat := 25
abbrev f_r06_Disk_Off : Nat := 26
abbrev f_r06_Disk_On : Nat := 27
abbrev f_files_Disk_Append : Nat := 28
abbrev f_r06_Disk_Append : Nat := 29
abbrev f_wal_Log_Size : Nat := 30
abbrev f_r07_Log_Size : Nat := 31
abbrev f_files_Disk_Steps : Nat := 32
abbrev f_r06_Disk_Steps : Nat := 33
abbrev f_r06_Disk_Down : Nat := 34
abbrev f_files_Disk_Read : Nat := 35
abbrev f_r06_Disk_Read : Nat := 36
abbrev f_wal_isRecord : Nat := 37
abbrev f_octet_Put32 : Nat := 38
abbrev f_digest_CRC : Nat := 39
abbrev f_r04_Put32 : Nat := 40
abbrev f_r05_CRC : Nat := 41
abbrev f_wal_frames : Nat := 42
abbrev f_r07_one : Nat := 43
abbrev f_files_Disk_Cut : Nat := 44
abbrev f_wal_Log_check : Nat := 45
abbrev f_files_Disk_Sync : Nat := 46
abbrev f_files_Disk_lose : Nat := 47
abbrev f_r06_Disk_Cut : Nat := 48
abbrev f_r07_Log_check : Nat := 49
abbrev f_r06_Disk_Sync : Nat := 50
abbrev f_r06_Disk_goes : Nat := 51
abbrev f_files_Disk_find : Nat := 52
abbrev f_files_Disk_spend : Nat := 53
abbrev f_r06_Disk_check : Nat := 54
abbrev f_r06_Disk_place : Nat := 55
abbrev f_r06_Disk_put : Nat := 56
abbrev f_r06_Disk_power : Nat := 57
abbrev f_octet_put_uint32 : Nat := 58
abbrev f_r04_put : Nat := 59
abbrev f_wal_frames_1 : Nat := 60
abbrev f_octet_Get32 : Nat := 61
abbrev f_octet_Cut : Nat := 62
abbrev f_r04_Get32 : Nat := 63
abbrev f_r04_Cut : Nat := 64
abbrev f_files_Disk_check : Nat := 65
abbrev f_r06_Name : Nat := 66
abbrev f_octet_get_uint32 : Nat := 67
abbrev f_r04_get : Nat := 68
abbrev f_files_isName : Nat := 69
abbrev f_strings_Trim : Nat := 70
abbrev f_strings_trimLeftByte : Nat := 71
abbrev f_strings_trimRightByte : Nat := 72
abbrev f_strings_makeASCIISet : Nat := 73
abbrev f_strings_trimLeftASCII : Nat := 74
abbrev f_strings_trimRightASCII : Nat := 75
abbrev f_strings_trimLeftUnicode : Nat := 76
abbrev f_strings_trimRightUnicode : Nat := 77
abbrev f_strings_asciiSet_contains : Nat := 78
abbrev f_utf8_DecodeRuneInString : Nat := 79
abbrev f_strings_ContainsRune : Nat := 80
abbrev f_utf8_DecodeLastRuneInString : Nat := 81
abbrev f_utf8_decodeRuneInStringSlow : Nat := 82
abbrev f_strings_IndexRune : Nat := 83
abbrev f_utf8_RuneStart : Nat := 84
abbrev f_strings_IndexByte : Nat := 85
abbrev f_utf8_ValidRune : Nat := 86
abbrev f_bytealg_Cutover : Nat := 87
abbrev f_stringslite_IndexByte : Nat := 89
abbrev f_gosem_cut_vars : Nat := 111
/-- gosem.cut.init -/
def r_gosem_cut_init : RF :=
  ⟨1, [], (.reg [⟨(some 0), none, (.call 1 [])⟩])⟩
theorem c_gosem_cut_init : compF Tryd.prog ⟨none, none⟩ Tryd.f2 = some r_gosem_cut_init := by kernel_rfl
/-- tenancy/tenancylaw07.WalScans -/
def r_w07_WalScans : RF :=
  ⟨54, [(.tmp 2)], (.seq (.reg [⟨(some 2), none, (.mv (.k (.bool false)))⟩]) (.seq (.seq (.reg [⟨(some 11), none, (.call f_w07_awake [])⟩, ⟨(some 12), none, (.un .not (.t 11))⟩]) 
  (.cond (.t 12) (.seq (.reg [⟨(some 2), none, (.mv (.k (.bool false)))⟩]) .ret) .skip)) (.seq (.seq (.reg [⟨(some 13), none, (.mv (.t 0))⟩, ⟨(some 14), none, (.lens (.t 13))⟩, 
  ⟨(some 15), none, (.bin .gtr (.t 14) (.k (.int .i64 1048576)))⟩]) (.cond (.t 15) (.seq (.reg [⟨(some 2), none, (.mv (.k (.bool true)))⟩]) .ret) .skip)) (.seq 
  (.reg [⟨(some 17), none, (.mv (.t 0))⟩, ⟨(some 18), none, (.call f_wal_Frame [(.t 17)])⟩, ⟨(some 16), none, (.mv (.t 18))⟩, ⟨(some 19), none, (.ext 0 (.t 16))⟩, 
  ⟨(some 20), none, (.ext 1 (.t 16))⟩, ⟨(some 3), none, (.mv (.t 19))⟩, ⟨(some 4), none, (.mv (.t 20))⟩]) (.seq (.reg [⟨(some 22), none, (.mv (.t 0))⟩, 
  ⟨(some 23), none, (.call f_r07_Frame [(.t 22)])⟩, ⟨(some 21), none, (.mv (.t 23))⟩, ⟨(some 24), none, (.ext 0 (.t 21))⟩, ⟨(some 25), none, (.ext 1 (.t 21))⟩, 
  ⟨(some 5), none, (.mv (.t 24))⟩, ⟨(some 6), none, (.mv (.t 25))⟩]) (.seq (.reg [⟨(some 27), none, (.mv (.t 0))⟩, ⟨(some 28), none, (.call f_wal_Scan [(.t 27)])⟩, 
  ⟨(some 26), none, (.mv (.t 28))⟩, ⟨(some 29), none, (.ext 0 (.t 26))⟩, ⟨(some 30), none, (.ext 1 (.t 26))⟩, ⟨(some 7), none, (.mv (.t 29))⟩, ⟨(some 8), none, (.mv (.t 30))⟩]) 
  (.seq (.reg [⟨(some 32), none, (.mv (.t 0))⟩, ⟨(some 33), none, (.call f_r07_Scan [(.t 32)])⟩, ⟨(some 31), none, (.mv (.t 33))⟩, ⟨(some 34), none, (.ext 0 (.t 31))⟩, 
  ⟨(some 35), none, (.ext 1 (.t 31))⟩, ⟨(some 9), none, (.mv (.t 34))⟩, ⟨(some 10), none, (.mv (.t 35))⟩]) (.seq (.reg [⟨(some 36), none, (.mv (.t 3))⟩, 
  ⟨(some 37), none, (.mv (.t 5))⟩, ⟨(some 38), none, (.eq false .s (.t 36) (.t 37))⟩, ⟨(some 39), none, (.mv (.t 38))⟩, ⟨(some 40), (some (39, true)), (.mv (.t 4))⟩, 
  ⟨(some 41), (some (39, true)), (.mv (.t 6))⟩, ⟨(some 42), (some (39, true)), (.eq false .i (.t 40) (.t 41))⟩, ⟨(some 43), none, (.pick (.t 39) (.t 42) (.k (.bool false)))⟩, 
  ⟨(some 44), none, (.mv (.t 43))⟩, ⟨(some 45), (some (44, true)), (.mv (.t 7))⟩, ⟨(some 46), (some (44, true)), (.mv (.t 9))⟩, 
  ⟨(some 47), (some (44, true)), (.call f_w07_same [(.t 45), (.t 46)])⟩, ⟨(some 48), none, (.pick (.t 44) (.t 47) (.k (.bool false)))⟩, ⟨(some 49), none, (.mv (.t 48))⟩, 
  ⟨(some 50), (some (49, true)), (.mv (.t 8))⟩, ⟨(some 51), (some (49, true)), (.mv (.t 10))⟩, ⟨(some 52), (some (49, true)), (.eq false .i (.t 50) (.t 51))⟩, 
  ⟨(some 53), none, (.pick (.t 49) (.t 52) (.k (.bool false)))⟩, ⟨(some 2), none, (.mv (.t 53))⟩]) .ret))))))))⟩
theorem c_w07_WalScans : compF Tryd.prog ⟨none, none⟩ Tryd.f3 = some r_w07_WalScans := by kernel_rfl
/-- tenancy/tenancylaw07.WalSpoilt -/
def r_w07_WalSpoilt : RF :=
  ⟨116, [(.tmp 6)], (.seq (.reg [⟨(some 6), none, (.mv (.k (.bool false)))⟩]) (.seq (.seq (.reg [⟨(some 15), none, (.call f_w07_awake [])⟩, ⟨(some 16), none, (.un .not (.t 15))⟩]) 
  (.cond (.t 16) (.seq (.reg [⟨(some 6), none, (.mv (.k (.bool false)))⟩]) .ret) .skip)) (.seq (.reg [⟨(some 18), none, (.mv (.t 0))⟩, 
  ⟨(some 19), none, (.call f_wal_Frame [(.t 18)])⟩, ⟨(some 17), none, (.mv (.t 19))⟩, ⟨(some 20), none, (.ext 0 (.t 17))⟩, ⟨(some 21), none, (.ext 1 (.t 17))⟩, 
  ⟨(some 7), none, (.mv (.t 20))⟩, ⟨(some 8), none, (.mv (.t 21))⟩]) (.seq (.reg [⟨(some 23), none, (.mv (.t 1))⟩, ⟨(some 24), none, (.call f_wal_Frame [(.t 23)])⟩, 
  ⟨(some 22), none, (.mv (.t 24))⟩, ⟨(some 25), none, (.ext 0 (.t 22))⟩, ⟨(some 26), none, (.ext 1 (.t 22))⟩, ⟨(some 9), none, (.mv (.t 25))⟩, ⟨(some 10), none, (.mv (.t 26))⟩]) 
  (.seq (.seq (.reg [⟨(some 27), none, (.mv (.t 8))⟩, ⟨(some 28), none, (.eq true .i (.t 27) (.k (.int .i64 0)))⟩, ⟨(some 29), none, (.mv (.t 28))⟩, 
  ⟨(some 30), (some (29, false)), (.mv (.t 10))⟩, ⟨(some 31), (some (29, false)), (.eq true .i (.t 30) (.k (.int .i64 0)))⟩, 
  ⟨(some 32), none, (.pick (.t 29) (.k (.bool true)) (.t 31))⟩]) (.cond (.t 32) (.seq (.reg [⟨(some 33), none, (.mv (.t 8))⟩, 
  ⟨(some 34), none, (.eq false .i (.t 33) (.k (.int .i64 0)))⟩, ⟨(some 35), none, (.mv (.t 34))⟩, ⟨(some 36), (some (35, false)), (.mv (.t 8))⟩, 
  ⟨(some 37), (some (35, false)), (.eq false .i (.t 36) (.k (.int .i64 1)))⟩, ⟨(some 38), none, (.pick (.t 35) (.k (.bool true)) (.t 37))⟩, ⟨(some 39), none, (.mv (.t 38))⟩, 
  ⟨(some 40), (some (39, true)), (.mv (.t 10))⟩, ⟨(some 41), (some (39, true)), (.eq false .i (.t 40) (.k (.int .i64 0)))⟩, ⟨(some 42), (some (39, true)), (.mv (.t 41))⟩, 
  ⟨(some 43), (some (42, false)), (.mv (.t 10))⟩, ⟨(some 44), (some (42, false)), (.eq false .i (.t 43) (.k (.int .i64 1)))⟩, 
  ⟨(some 45), (some (39, true)), (.pick (.t 42) (.k (.bool true)) (.t 44))⟩, ⟨(some 46), none, (.pick (.t 39) (.t 45) (.k (.bool false)))⟩, 
  ⟨(some 6), none, (.mv (.t 46))⟩]) .ret) .skip)) (.seq (.reg [⟨(some 48), none, (.mv (.t 7))⟩, ⟨(some 49), none, (.mv (.t 9))⟩, ⟨(some 50), none, (.mv (.t 9))⟩, 
  ⟨(some 51), none, (.lens (.t 50))⟩, ⟨(some 52), none, (.bin .sub (.t 51) (.k (.int .i64 1)))⟩, ⟨(some 53), none, (.sls (.t 49) none (some (.t 52)))⟩, 
  ⟨(some 54), none, (.bin .add (.t 48) (.t 53))⟩, ⟨(some 55), none, (.call f_wal_Scan [(.t 54)])⟩, ⟨(some 47), none, (.mv (.t 55))⟩, ⟨(some 56), none, (.ext 0 (.t 47))⟩, 
  ⟨(some 57), none, (.ext 1 (.t 47))⟩, ⟨(some 11), none, (.mv (.t 56))⟩, ⟨(some 12), none, (.mv (.t 57))⟩]) (.seq (.seq (.reg [⟨(some 58), none, (.mv (.t 11))⟩, 
  ⟨(some 59), none, (.mv (.t 0))⟩, ⟨(some 60), none, (.bsl 1 1 [(.str (bts []))] [(0, (1, (.t 59)))])⟩, ⟨(some 61), none, (.call f_w07_same [(.t 58), (.t 60)])⟩, 
  ⟨(some 62), none, (.un .not (.t 61))⟩, ⟨(some 63), none, (.mv (.t 62))⟩, ⟨(some 64), (some (63, false)), (.mv (.t 12))⟩, ⟨(some 65), (some (63, false)), (.mv (.t 7))⟩, 
  ⟨(some 66), (some (63, false)), (.lens (.t 65))⟩, ⟨(some 67), (some (63, false)), (.eq true .i (.t 64) (.t 66))⟩, ⟨(some 68), none, (.pick (.t 63) (.k (.bool true)) (.t 67))⟩]) 
  (.cond (.t 68) (.seq (.reg [⟨(some 6), none, (.mv (.k (.bool false)))⟩]) .ret) .skip)) (.seq (.reg [⟨(some 69), none, (.mv (.t 2))⟩, ⟨(some 70), none, (.cvi .u64 (.t 69))⟩, 
  ⟨(some 71), none, (.mv (.t 9))⟩, ⟨(some 72), none, (.lens (.t 71))⟩, ⟨(some 73), none, (.bin .sub (.t 72) (.k (.int .i64 4)))⟩, 
  ⟨(some 74), none, (.bin .mul (.k (.int .i64 8)) (.t 73))⟩, ⟨(some 75), none, (.cvi .u64 (.t 74))⟩, ⟨(some 76), none, (.bin .rem (.t 70) (.t 75))⟩, 
  ⟨(some 77), none, (.cvi .i64 (.t 76))⟩, ⟨(some 13), none, (.mv (.t 77))⟩]) (.seq (.reg [⟨(some 78), none, (.mv (.t 9))⟩, ⟨(some 79), none, (.xt .s2b [(.t 78)])⟩, 
  ⟨(some 14), none, (.mv (.t 79))⟩]) (.seq (.reg [⟨(some 80), none, (.mv (.t 14))⟩, ⟨(some 81), none, (.mv (.t 13))⟩, ⟨(some 82), none, (.bin .quo (.t 81) (.k (.int .i64 8)))⟩, 
  ⟨(some 83), none, (.bin .add (.k (.int .i64 4)) (.t 82))⟩, ⟨(some 84), none, (.mv (.t 14))⟩, ⟨(some 85), none, (.mv (.t 13))⟩, 
  ⟨(some 86), none, (.bin .quo (.t 85) (.k (.int .i64 8)))⟩, ⟨(some 87), none, (.bin .add (.k (.int .i64 4)) (.t 86))⟩, ⟨(some 88), none, (.ixa 1 (.t 84) (.t 87))⟩, 
  ⟨(some 89), none, (.ld none (.t 88))⟩, ⟨(some 90), none, (.mv (.t 13))⟩, ⟨(some 91), none, (.bin .rem (.t 90) (.k (.int .i64 8)))⟩, ⟨(some 92), none, (.cvi .u64 (.t 91))⟩, 
  ⟨(some 93), none, (.bin .shl (.k (.int .u8 1)) (.t 92))⟩, ⟨(some 94), none, (.bin .xor (.t 89) (.t 93))⟩, ⟨(some 95), none, (.ixa 1 (.t 80) (.t 83))⟩, 
  ⟨none, none, (.st none (.t 95) (.t 94))⟩]) (.seq (.reg [⟨(some 97), none, (.mv (.t 7))⟩, ⟨(some 98), none, (.mv (.t 14))⟩, ⟨(some 99), none, (.xt .b2s [(.t 98)])⟩, 
  ⟨(some 100), none, (.bin .add (.t 97) (.t 99))⟩, ⟨(some 101), none, (.mv (.t 7))⟩, ⟨(some 102), none, (.bin .add (.t 100) (.t 101))⟩, 
  ⟨(some 103), none, (.call f_wal_Scan [(.t 102)])⟩, ⟨(some 96), none, (.mv (.t 103))⟩, ⟨(some 104), none, (.ext 0 (.t 96))⟩, ⟨(some 105), none, (.ext 1 (.t 96))⟩, 
  ⟨(some 11), none, (.mv (.t 104))⟩, ⟨(some 12), none, (.mv (.t 105))⟩]) (.seq (.reg [⟨(some 106), none, (.mv (.t 11))⟩, ⟨(some 107), none, (.mv (.t 0))⟩, 
  ⟨(some 108), none, (.bsl 1 1 [(.str (bts []))] [(0, (1, (.t 107)))])⟩, ⟨(some 109), none, (.call f_w07_same [(.t 106), (.t 108)])⟩, ⟨(some 110), none, (.mv (.t 109))⟩, 
  ⟨(some 111), (some (110, true)), (.mv (.t 12))⟩, ⟨(some 112), (some (110, true)), (.mv (.t 7))⟩, ⟨(some 113), (some (110, true)), (.lens (.t 112))⟩, 
  ⟨(some 114), (some (110, true)), (.eq false .i (.t 111) (.t 113))⟩, ⟨(some 115), none, (.pick (.t 110) (.t 114) (.k (.bool false)))⟩, 
  ⟨(some 6), none, (.mv (.t 115))⟩]) .ret))))))))))))⟩
theorem c_w07_WalSpoilt : compF Tryd.prog ⟨none, none⟩ Tryd.f4 = some r_w07_WalSpoilt := by kernel_rfl
/-- tenancy/tenancylaw07.WalCrash -/
def r_w07_WalCrash : RF :=
  ⟨207, [(.tmp 6)], (.seq (.reg [⟨(some 6), none, (.mv (.k (.bool false)))⟩]) (.seq (.seq (.reg [⟨(some 19), none, (.call f_w07_awake [])⟩, ⟨(some 20), none, (.un .not (.t 19))⟩]) 
  (.cond (.t 20) (.seq (.reg [⟨(some 6), none, (.mv (.k (.bool false)))⟩]) .ret) .skip)) (.seq (.reg [⟨(some 21), none, (.call f_files_New [])⟩, ⟨(some 7), none, (.mv (.t 21))⟩]) 
  (.seq (.reg [⟨(some 23), none, (.mv (.t 7))⟩, ⟨(some 24), none, (.call f_wal_Open [(.t 23), (.k (.str (bts [108, 111, 103])))])⟩, ⟨(some 22), none, (.mv (.t 24))⟩, 
  ⟨(some 25), none, (.ext 0 (.t 22))⟩, ⟨(some 26), none, (.ext 1 (.t 22))⟩, ⟨(some 27), none, (.ext 2 (.t 22))⟩, ⟨(some 8), none, (.mv (.t 25))⟩, ⟨(some 9), none, (.mv (.t 26))⟩, 
  ⟨(some 10), none, (.mv (.t 27))⟩]) (.seq (.seq (.reg [⟨(some 28), none, (.mv (.t 10))⟩, ⟨(some 29), none, (.eq true .i (.t 28) (.k (.int .i64 0)))⟩]) (.cond (.t 29) (.seq 
  (.reg [⟨(some 6), none, (.mv (.k (.bool false)))⟩]) .ret) .skip)) (.seq (.reg [⟨(some 30), none, (.mv (.t 7))⟩, ⟨(some 31), none, (.mv (.t 1))⟩, 
  ⟨(some 32), none, (.cvi .u64 (.t 31))⟩, ⟨(some 33), none, (.bin .rem (.t 32) (.k (.int .u64 60)))⟩, ⟨(some 34), none, (.cvi .i64 (.t 33))⟩, ⟨(some 35), none, (.mv (.t 2))⟩, 
  ⟨(some 36), none, (.call f_files_Disk_Arm [(.t 30), (.t 34), (.t 35)])⟩]) (.seq (.reg [⟨(some 11), none, (.mv (.k .nils))⟩]) (.seq 
  (.reg [⟨(some 12), none, (.mv (.k (.int .i64 0)))⟩]) (.seq (.reg [⟨(some 13), none, (.mv (.k (.int .i64 0)))⟩]) (.seq (.seq (.reg [⟨(some 14), none, (.mv (.k (.int .i64 0)))⟩]) 
  (.block 0 (.loop (.seq (.seq (.reg [⟨(some 37), none, (.mv (.t 14))⟩, ⟨(some 38), none, (.mv (.t 0))⟩, ⟨(some 39), none, (.lenl (.t 38))⟩, 
  ⟨(some 40), none, (.bin .lss (.t 37) (.t 39))⟩, ⟨(some 41), none, (.mv (.t 40))⟩, ⟨(some 42), (some (41, true)), (.mv (.t 14))⟩, 
  ⟨(some 43), (some (41, true)), (.bin .lss (.t 42) (.k (.int .i64 200)))⟩, ⟨(some 44), none, (.pick (.t 41) (.t 43) (.k (.bool false)))⟩, ⟨(some 45), none, (.mv (.t 44))⟩, 
  ⟨(some 46), (some (45, true)), (.mv (.t 7))⟩, ⟨(some 47), (some (45, true)), (.call f_files_Disk_Down [(.t 46)])⟩, ⟨(some 48), (some (45, true)), (.un .not (.t 47))⟩, 
  ⟨(some 49), none, (.pick (.t 45) (.t 48) (.k (.bool false)))⟩]) (.cond (.t 49) .skip (.exit 0))) (.seq (.block 1 (.seq (.reg [⟨(some 52), none, (.mv (.t 13))⟩, 
  ⟨(some 53), none, (.mv (.t 0))⟩, ⟨(some 54), none, (.mv (.t 14))⟩, ⟨(some 55), none, (.ixa 2 (.t 53) (.t 54))⟩, ⟨(some 56), none, (.off 0 (.t 55))⟩, 
  ⟨(some 57), none, (.ld none (.t 56))⟩, ⟨(some 58), none, (.lens (.t 57))⟩, ⟨(some 59), none, (.bin .add (.t 58) (.k (.int .i64 8)))⟩, 
  ⟨(some 60), none, (.bin .add (.t 52) (.t 59))⟩, ⟨(some 13), none, (.mv (.t 60))⟩]) (.seq (.seq (.reg [⟨(some 61), none, (.mv (.t 13))⟩, 
  ⟨(some 62), none, (.bin .gtr (.t 61) (.k (.int .i64 262144)))⟩]) (.cond (.t 62) (.seq (.reg [⟨(some 6), none, (.mv (.k (.bool true)))⟩]) .ret) .skip)) (.seq (.seq 
  (.reg [⟨(some 63), none, (.mv (.t 0))⟩, ⟨(some 64), none, (.mv (.t 14))⟩, ⟨(some 65), none, (.ixa 2 (.t 63) (.t 64))⟩, ⟨(some 66), none, (.off 0 (.t 65))⟩, 
  ⟨(some 67), none, (.ld none (.t 66))⟩, ⟨(some 68), none, (.lens (.t 67))⟩, ⟨(some 69), none, (.bin .lss (.t 68) (.k (.int .i64 1)))⟩, ⟨(some 70), none, (.mv (.t 69))⟩, 
  ⟨(some 71), (some (70, false)), (.mv (.t 0))⟩, ⟨(some 72), (some (70, false)), (.mv (.t 14))⟩, ⟨(some 73), (some (70, false)), (.ixa 2 (.t 71) (.t 72))⟩, 
  ⟨(some 74), (some (70, false)), (.off 0 (.t 73))⟩, ⟨(some 75), (some (70, false)), (.ld none (.t 74))⟩, ⟨(some 76), (some (70, false)), (.lens (.t 75))⟩, 
  ⟨(some 77), (some (70, false)), (.bin .gtr (.t 76) (.k (.int .i64 65536)))⟩, ⟨(some 78), none, (.pick (.t 70) (.k (.bool true)) (.t 77))⟩]) (.cond (.t 78) (.exit 1) .skip)) (.seq 
  (.reg [⟨(some 79), none, (.mv (.t 11))⟩, ⟨(some 80), none, (.mv (.t 0))⟩, ⟨(some 81), none, (.mv (.t 14))⟩, ⟨(some 82), none, (.ixa 2 (.t 80) (.t 81))⟩, 
  ⟨(some 83), none, (.off 0 (.t 82))⟩, ⟨(some 84), none, (.ld none (.t 83))⟩, ⟨(some 85), none, (.bsl 1 1 [(.str (bts []))] [(0, (1, (.t 84)))])⟩, 
  ⟨(some 86), none, (.app 1 16 (.t 79) (.t 85))⟩, ⟨(some 11), none, (.mv (.t 86))⟩]) (.seq (.reg [⟨(some 87), none, (.mv (.t 8))⟩, ⟨(some 88), none, (.mv (.t 0))⟩, 
  ⟨(some 89), none, (.mv (.t 14))⟩, ⟨(some 90), none, (.ixa 2 (.t 88) (.t 89))⟩, ⟨(some 91), none, (.off 0 (.t 90))⟩, ⟨(some 92), none, (.ld none (.t 91))⟩, 
  ⟨(some 93), none, (.call f_wal_Log_Append [(.t 87), (.t 92)])⟩, ⟨(some 10), none, (.mv (.t 93))⟩]) (.seq (.seq (.reg [⟨(some 94), none, (.mv (.t 10))⟩, 
  ⟨(some 95), none, (.eq false .i (.t 94) (.k (.int .i64 0)))⟩, ⟨(some 96), none, (.mv (.t 95))⟩, ⟨(some 97), (some (96, true)), (.mv (.t 0))⟩, 
  ⟨(some 98), (some (96, true)), (.mv (.t 14))⟩, ⟨(some 99), (some (96, true)), (.ixa 2 (.t 97) (.t 98))⟩, ⟨(some 100), (some (96, true)), (.off 1 (.t 99))⟩, 
  ⟨(some 101), (some (96, true)), (.ld none (.t 100))⟩, ⟨(some 102), none, (.pick (.t 96) (.t 101) (.k (.bool false)))⟩]) (.cond (.t 102) (.seq 
  (.reg [⟨(some 103), none, (.mv (.t 8))⟩, ⟨(some 104), none, (.call f_wal_Log_Sync [(.t 103)])⟩, ⟨(some 10), none, (.mv (.t 104))⟩]) (.seq (.reg [⟨(some 105), none, (.mv (.t 10))⟩, 
  ⟨(some 106), none, (.eq false .i (.t 105) (.k (.int .i64 0)))⟩]) (.cond (.t 106) (.reg [⟨(some 107), none, (.mv (.t 11))⟩, ⟨(some 108), none, (.lenl (.t 107))⟩, 
  ⟨(some 12), none, (.mv (.t 108))⟩]) .skip))) .skip)) (.seq (.reg [⟨(some 109), none, (.mv (.t 10))⟩, ⟨(some 110), none, (.eq true .i (.t 109) (.k (.int .i64 0)))⟩, 
  ⟨(some 111), none, (.mv (.t 110))⟩, ⟨(some 112), (some (111, true)), (.mv (.t 10))⟩, ⟨(some 113), (some (111, true)), (.eq true .i (.t 112) (.k (.int .i64 60)))⟩, 
  ⟨(some 114), none, (.pick (.t 111) (.t 113) (.k (.bool false)))⟩, ⟨(some 115), none, (.mv (.t 114))⟩, ⟨(some 116), (some (115, false)), (.mv (.t 10))⟩, 
  ⟨(some 117), (some (115, false)), (.eq false .i (.t 116) (.k (.int .i64 60)))⟩, ⟨(some 118), (some (115, false)), (.mv (.t 7))⟩, 
  ⟨(some 119), (some (115, false)), (.call f_files_Disk_Down [(.t 118)])⟩, ⟨(some 120), (some (115, false)), (.eq true .b (.t 117) (.t 119))⟩, 
  ⟨(some 121), none, (.pick (.t 115) (.k (.bool true)) (.t 120))⟩]) (.cond (.t 121) (.seq (.reg [⟨(some 6), none, (.mv (.k (.bool false)))⟩]) .ret) .skip))))))))) 
  (.reg [⟨(some 50), none, (.mv (.t 14))⟩, ⟨(some 51), none, (.bin .add (.t 50) (.k (.int .i64 1)))⟩, ⟨(some 14), none, (.mv (.t 51))⟩])))))) (.seq 
  (.reg [⟨(some 122), none, (.mv (.t 7))⟩, ⟨(some 123), none, (.mv (.t 2))⟩, ⟨(some 124), none, (.call f_files_Disk_Off [(.t 122), (.t 123)])⟩]) (.seq (.seq 
  (.reg [⟨(some 125), none, (.mv (.t 8))⟩, ⟨(some 126), none, (.call f_wal_Log_Append [(.t 125), (.k (.str (bts [109, 111, 114, 101])))])⟩, 
  ⟨(some 127), none, (.eq true .i (.t 126) (.k (.int .i64 60)))⟩]) (.cond (.t 127) (.seq (.reg [⟨(some 6), none, (.mv (.k (.bool false)))⟩]) .ret) .skip)) (.seq 
  (.reg [⟨(some 128), none, (.mv (.t 7))⟩, ⟨(some 129), none, (.call f_files_Disk_On [(.t 128)])⟩]) (.seq (.seq (.reg [⟨(some 130), none, (.mv (.t 8))⟩, 
  ⟨(some 131), none, (.call f_wal_Log_Sync [(.t 130)])⟩, ⟨(some 132), none, (.eq true .i (.t 131) (.k (.int .i64 60)))⟩]) (.cond (.t 132) (.seq 
  (.reg [⟨(some 6), none, (.mv (.k (.bool false)))⟩]) .ret) .skip)) (.seq (.reg [⟨(some 134), none, (.mv (.t 7))⟩, 
  ⟨(some 135), none, (.call f_wal_Open [(.t 134), (.k (.str (bts [108, 111, 103])))])⟩, ⟨(some 133), none, (.mv (.t 135))⟩, ⟨(some 136), none, (.ext 0 (.t 133))⟩, 
  ⟨(some 137), none, (.ext 1 (.t 133))⟩, ⟨(some 138), none, (.ext 2 (.t 133))⟩, ⟨(some 15), none, (.mv (.t 136))⟩, ⟨(some 16), none, (.mv (.t 137))⟩, 
  ⟨(some 10), none, (.mv (.t 138))⟩]) (.seq (.seq (.reg [⟨(some 139), none, (.mv (.t 10))⟩, ⟨(some 140), none, (.eq true .i (.t 139) (.k (.int .i64 0)))⟩, 
  ⟨(some 141), none, (.mv (.t 140))⟩, ⟨(some 142), (some (141, false)), (.mv (.t 16))⟩, ⟨(some 143), (some (141, false)), (.lenl (.t 142))⟩, 
  ⟨(some 144), (some (141, false)), (.mv (.t 12))⟩, ⟨(some 145), (some (141, false)), (.bin .lss (.t 143) (.t 144))⟩, 
  ⟨(some 146), none, (.pick (.t 141) (.k (.bool true)) (.t 145))⟩, ⟨(some 147), none, (.mv (.t 146))⟩, ⟨(some 148), (some (147, false)), (.mv (.t 16))⟩, 
  ⟨(some 149), (some (147, false)), (.lenl (.t 148))⟩, ⟨(some 150), (some (147, false)), (.mv (.t 11))⟩, ⟨(some 151), (some (147, false)), (.lenl (.t 150))⟩, 
  ⟨(some 152), (some (147, false)), (.bin .gtr (.t 149) (.t 151))⟩, ⟨(some 153), none, (.pick (.t 147) (.k (.bool true)) (.t 152))⟩, ⟨(some 154), none, (.mv (.t 153))⟩, 
  ⟨(some 155), (some (154, false)), (.mv (.t 16))⟩, ⟨(some 156), (some (154, false)), (.mv (.t 11))⟩, ⟨(some 157), (some (154, false)), (.mv (.t 16))⟩, 
  ⟨(some 158), (some (154, false)), (.lenl (.t 157))⟩, ⟨(some 159), (some (154, false)), (.slc 1 (.t 156) none (some (.t 158)) none)⟩, 
  ⟨(some 160), (some (154, false)), (.call f_w07_same [(.t 155), (.t 159)])⟩, ⟨(some 161), (some (154, false)), (.un .not (.t 160))⟩, 
  ⟨(some 162), none, (.pick (.t 154) (.k (.bool true)) (.t 161))⟩]) (.cond (.t 162) (.seq (.reg [⟨(some 6), none, (.mv (.k (.bool false)))⟩]) .ret) .skip)) (.seq (.seq 
  (.reg [⟨(some 163), none, (.mv (.t 15))⟩, ⟨(some 164), none, (.call f_wal_Log_Append [(.t 163), (.k (.str (bts [109, 111, 114, 101])))])⟩, 
  ⟨(some 165), none, (.eq true .i (.t 164) (.k (.int .i64 0)))⟩, ⟨(some 166), none, (.mv (.t 165))⟩, ⟨(some 167), (some (166, false)), (.mv (.t 15))⟩, 
  ⟨(some 168), (some (166, false)), (.call f_wal_Log_Sync [(.t 167)])⟩, ⟨(some 169), (some (166, false)), (.eq true .i (.t 168) (.k (.int .i64 0)))⟩, 
  ⟨(some 170), none, (.pick (.t 166) (.k (.bool true)) (.t 169))⟩]) (.cond (.t 170) (.seq (.reg [⟨(some 6), none, (.mv (.k (.bool false)))⟩]) .ret) .skip)) (.seq 
  (.reg [⟨(some 171), none, (.mv (.t 7))⟩, ⟨(some 172), none, (.call f_files_Disk_Off [(.t 171), (.k (.int .i64 0))])⟩]) (.seq (.reg [⟨(some 173), none, (.mv (.t 7))⟩, 
  ⟨(some 174), none, (.call f_files_Disk_On [(.t 173)])⟩]) (.seq (.reg [⟨(some 176), none, (.mv (.t 7))⟩, 
  ⟨(some 177), none, (.call f_wal_Open [(.t 176), (.k (.str (bts [108, 111, 103])))])⟩, ⟨(some 175), none, (.mv (.t 177))⟩, ⟨(some 178), none, (.ext 0 (.t 175))⟩, 
  ⟨(some 179), none, (.ext 1 (.t 175))⟩, ⟨(some 180), none, (.ext 2 (.t 175))⟩, ⟨(some 17), none, (.mv (.t 178))⟩, ⟨(some 18), none, (.mv (.t 179))⟩, 
  ⟨(some 10), none, (.mv (.t 180))⟩]) (.seq (.reg [⟨(some 181), none, (.mv (.t 10))⟩, ⟨(some 182), none, (.eq false .i (.t 181) (.k (.int .i64 0)))⟩, 
  ⟨(some 183), none, (.mv (.t 182))⟩, ⟨(some 184), (some (183, true)), (.mv (.t 18))⟩, ⟨(some 185), (some (183, true)), (.lenl (.t 184))⟩, 
  ⟨(some 186), (some (183, true)), (.mv (.t 16))⟩, ⟨(some 187), (some (183, true)), (.lenl (.t 186))⟩, ⟨(some 188), (some (183, true)), (.bin .add (.t 187) (.k (.int .i64 1)))⟩, 
  ⟨(some 189), (some (183, true)), (.eq false .i (.t 185) (.t 188))⟩, ⟨(some 190), none, (.pick (.t 183) (.t 189) (.k (.bool false)))⟩, ⟨(some 191), none, (.mv (.t 190))⟩, 
  ⟨(some 192), (some (191, true)), (.mv (.t 18))⟩, ⟨(some 193), (some (191, true)), (.mv (.t 16))⟩, ⟨(some 194), (some (191, true)), (.lenl (.t 193))⟩, 
  ⟨(some 195), (some (191, true)), (.slc 1 (.t 192) none (some (.t 194)) none)⟩, ⟨(some 196), (some (191, true)), (.mv (.t 16))⟩, 
  ⟨(some 197), (some (191, true)), (.call f_w07_same [(.t 195), (.t 196)])⟩, ⟨(some 198), none, (.pick (.t 191) (.t 197) (.k (.bool false)))⟩, ⟨(some 199), none, (.mv (.t 198))⟩, 
  ⟨(some 200), (some (199, true)), (.mv (.t 18))⟩, ⟨(some 201), (some (199, true)), (.mv (.t 16))⟩, ⟨(some 202), (some (199, true)), (.lenl (.t 201))⟩, 
  ⟨(some 203), (some (199, true)), (.ixa 1 (.t 200) (.t 202))⟩, ⟨(some 204), (some (199, true)), (.ld none (.t 203))⟩, 
  ⟨(some 205), (some (199, true)), (.eq false .s (.t 204) (.k (.str (bts [109, 111, 114, 101]))))⟩, ⟨(some 206), none, (.pick (.t 199) (.t 205) (.k (.bool false)))⟩, 
  ⟨(some 6), none, (.mv (.t 206))⟩]) .ret)))))))))))))))))))))⟩
theorem c_w07_WalCrash : compF Tryd.prog ⟨none, none⟩ Tryd.f5 = some r_w07_WalCrash := by kernel_rfl
/-- tenancy/tenancylaw07.WalExact -/
def r_w07_WalExact : RF :=
  ⟨222, [(.tmp 4)], (.seq (.reg [⟨(some 4), none, (.mv (.k (.bool false)))⟩]) (.seq (.seq (.reg [⟨(some 20), none, (.call f_w07_awake [])⟩, ⟨(some 21), none, (.un .not (.t 20))⟩]) 
  (.cond (.t 21) (.seq (.reg [⟨(some 4), none, (.mv (.k (.bool false)))⟩]) .ret) .skip)) (.seq (.reg [⟨(some 23), none, (.mv (.t 0))⟩, 
  ⟨(some 24), none, (.call f_wal_Open [(.k .nilp), (.t 23)])⟩, ⟨(some 22), none, (.mv (.t 24))⟩, ⟨(some 25), none, (.ext 0 (.t 22))⟩, ⟨(some 26), none, (.ext 1 (.t 22))⟩, 
  ⟨(some 27), none, (.ext 2 (.t 22))⟩, ⟨(some 5), none, (.mv (.t 25))⟩, ⟨(some 6), none, (.mv (.t 26))⟩, ⟨(some 7), none, (.mv (.t 27))⟩]) (.seq (.seq 
  (.reg [⟨(some 28), none, (.mv (.t 7))⟩, ⟨(some 29), none, (.eq true .i (.t 28) (.k (.int .i64 2)))⟩]) (.cond (.t 29) (.seq 
  (.reg [⟨(some 4), none, (.mv (.k (.bool false)))⟩]) .ret) .skip)) (.seq (.reg [⟨(some 30), none, (.call f_files_New [])⟩, ⟨(some 8), none, (.mv (.t 30))⟩]) (.seq 
  (.reg [⟨(some 31), none, (.call f_r06_New [])⟩, ⟨(some 9), none, (.mv (.t 31))⟩]) (.seq (.reg [⟨(some 33), none, (.mv (.t 8))⟩, ⟨(some 34), none, (.mv (.t 0))⟩, 
  ⟨(some 35), none, (.call f_wal_Open [(.t 33), (.t 34)])⟩, ⟨(some 32), none, (.mv (.t 35))⟩, ⟨(some 36), none, (.ext 0 (.t 32))⟩, ⟨(some 37), none, (.ext 1 (.t 32))⟩, 
  ⟨(some 38), none, (.ext 2 (.t 32))⟩, ⟨(some 10), none, (.mv (.t 36))⟩, ⟨(some 11), none, (.mv (.t 37))⟩, ⟨(some 7), none, (.mv (.t 38))⟩]) (.seq 
  (.reg [⟨(some 40), none, (.mv (.t 9))⟩, ⟨(some 41), none, (.mv (.t 0))⟩, ⟨(some 42), none, (.call f_r07_Open [(.t 40), (.t 41)])⟩, ⟨(some 39), none, (.mv (.t 42))⟩, 
  ⟨(some 43), none, (.ext 0 (.t 39))⟩, ⟨(some 44), none, (.ext 1 (.t 39))⟩, ⟨(some 45), none, (.ext 2 (.t 39))⟩, ⟨(some 12), none, (.mv (.t 43))⟩, ⟨(some 13), none, (.mv (.t 44))⟩, 
  ⟨(some 14), none, (.mv (.t 45))⟩]) (.seq (.seq (.reg [⟨(some 46), none, (.mv (.t 7))⟩, ⟨(some 47), none, (.mv (.t 14))⟩, ⟨(some 48), none, (.eq true .i (.t 46) (.t 47))⟩, 
  ⟨(some 49), none, (.mv (.t 48))⟩, ⟨(some 50), (some (49, false)), (.mv (.t 10))⟩, ⟨(some 51), (some (49, false)), (.eq false .p (.t 50) (.k .nilp))⟩, 
  ⟨(some 52), (some (49, false)), (.mv (.t 12))⟩, ⟨(some 53), (some (49, false)), (.eq false .p (.t 52) (.k .nilp))⟩, ⟨(some 54), (some (49, false)), (.eq true .b (.t 51) (.t 53))⟩, 
  ⟨(some 55), none, (.pick (.t 49) (.k (.bool true)) (.t 54))⟩, ⟨(some 56), none, (.mv (.t 55))⟩, ⟨(some 57), (some (56, false)), (.mv (.t 11))⟩, 
  ⟨(some 58), (some (56, false)), (.mv (.t 13))⟩, ⟨(some 59), (some (56, false)), (.call f_w07_same [(.t 57), (.t 58)])⟩, ⟨(some 60), (some (56, false)), (.un .not (.t 59))⟩, 
  ⟨(some 61), none, (.pick (.t 56) (.k (.bool true)) (.t 60))⟩]) (.cond (.t 61) (.seq (.reg [⟨(some 4), none, (.mv (.k (.bool false)))⟩]) .ret) .skip)) (.seq 
  (.reg [⟨(some 15), none, (.mv (.k (.int .i64 0)))⟩]) (.seq (.seq (.reg [⟨(some 16), none, (.mv (.k (.int .i64 0)))⟩]) (.block 0 (.loop (.seq (.seq 
  (.reg [⟨(some 62), none, (.mv (.t 16))⟩, ⟨(some 63), none, (.mv (.t 1))⟩, ⟨(some 64), none, (.lenl (.t 63))⟩, ⟨(some 65), none, (.bin .lss (.t 62) (.t 64))⟩, 
  ⟨(some 66), none, (.mv (.t 65))⟩, ⟨(some 67), (some (66, true)), (.mv (.t 16))⟩, ⟨(some 68), (some (66, true)), (.bin .lss (.t 67) (.k (.int .i64 500)))⟩, 
  ⟨(some 69), none, (.pick (.t 66) (.t 68) (.k (.bool false)))⟩]) (.cond (.t 69) .skip (.exit 0))) (.seq (.block 1 (.seq (.reg [⟨(some 72), none, (.mv (.t 1))⟩, 
  ⟨(some 73), none, (.mv (.t 16))⟩, ⟨(some 74), none, (.ixa 4 (.t 72) (.t 73))⟩, ⟨(some 75), none, (.ld (some 4) (.t 74))⟩, 
  ⟨(some 17), none, (.new [(.int .i64 0), (.str (bts [])), (.int .i64 0), (.int .i64 0)])⟩, ⟨none, none, (.st (some 4) (.t 17) (.t 75))⟩]) (.seq 
  (.reg [⟨(some 76), none, (.mv (.t 15))⟩, ⟨(some 77), none, (.off 1 (.t 17))⟩, ⟨(some 78), none, (.ld none (.t 77))⟩, ⟨(some 79), none, (.lens (.t 78))⟩, 
  ⟨(some 80), none, (.bin .add (.t 76) (.t 79))⟩, ⟨(some 15), none, (.mv (.t 80))⟩]) (.seq (.seq (.reg [⟨(some 81), none, (.mv (.t 15))⟩, 
  ⟨(some 82), none, (.bin .gtr (.t 81) (.k (.int .i64 262144)))⟩]) (.cond (.t 82) (.seq (.reg [⟨(some 4), none, (.mv (.k (.bool true)))⟩]) .ret) .skip)) (.seq (.seq 
  (.reg [⟨(some 83), none, (.off 0 (.t 17))⟩, ⟨(some 84), none, (.ld none (.t 83))⟩]) (.block 2 (.seq (.reg [⟨(some 86), none, (.eq false .i (.t 84) (.k (.int .i64 1)))⟩, 
  ⟨(some 85), none, (.mv (.t 86))⟩]) (.cond (.t 85) (.seq (.drw 0 [⟨⟨(some 87), none, (.mv (.t 10))⟩, .pure, [], []⟩, ⟨⟨(some 88), none, (.off 1 (.t 17))⟩, .pure, [], []⟩, 
  ⟨⟨(some 89), none, (.ld none (.t 88))⟩, .ld, [], []⟩, ⟨⟨(some 90), none, (.call f_wal_Log_Append [(.t 87), (.t 89)])⟩, .eff, [], []⟩, 
  ⟨⟨(some 91), none, (.mv (.t 12))⟩, .pure, [2], []⟩, ⟨⟨(some 92), none, (.off 1 (.t 17))⟩, .pure, [2], []⟩, ⟨⟨(some 93), none, (.ld none (.t 92))⟩, .ld, [3], []⟩, 
  ⟨⟨(some 94), none, (.call f_r07_Log_Append [(.t 91), (.t 93)])⟩, .eff, [], []⟩, ⟨⟨(some 95), none, (.eq true .i (.t 90) (.t 94))⟩, .pure, [], []⟩]) (.cond (.t 95) (.seq 
  (.reg [⟨(some 4), none, (.mv (.k (.bool false)))⟩]) .ret) .skip)) (.seq (.reg [⟨(some 97), none, (.eq false .i (.t 84) (.k (.int .i64 2)))⟩, ⟨(some 96), none, (.mv (.t 97))⟩]) 
  (.cond (.t 96) (.seq (.reg [⟨(some 98), none, (.mv (.t 10))⟩, ⟨(some 99), none, (.call f_wal_Log_Sync [(.t 98)])⟩, ⟨(some 100), none, (.mv (.t 12))⟩, 
  ⟨(some 101), none, (.call f_r07_Log_Sync [(.t 100)])⟩, ⟨(some 102), none, (.eq true .i (.t 99) (.t 101))⟩]) (.cond (.t 102) (.seq 
  (.reg [⟨(some 4), none, (.mv (.k (.bool false)))⟩]) .ret) .skip)) (.seq (.reg [⟨(some 104), none, (.eq false .i (.t 84) (.k (.int .i64 3)))⟩, ⟨(some 103), none, (.mv (.t 104))⟩]) 
  (.cond (.t 103) (.seq (.reg [⟨(some 105), none, (.mv (.t 8))⟩, ⟨(some 106), none, (.off 2 (.t 17))⟩, ⟨(some 107), none, (.ld none (.t 106))⟩, ⟨(some 108), none, (.off 3 (.t 17))⟩, 
  ⟨(some 109), none, (.ld none (.t 108))⟩, ⟨(some 110), none, (.call f_files_Disk_Arm [(.t 105), (.t 107), (.t 109)])⟩]) (.reg [⟨(some 111), none, (.mv (.t 9))⟩, 
  ⟨(some 112), none, (.off 2 (.t 17))⟩, ⟨(some 113), none, (.ld none (.t 112))⟩, ⟨(some 114), none, (.off 3 (.t 17))⟩, ⟨(some 115), none, (.ld none (.t 114))⟩, 
  ⟨(some 116), none, (.call f_r06_Disk_Arm [(.t 111), (.t 113), (.t 115)])⟩])) (.seq (.reg [⟨(some 118), none, (.eq false .i (.t 84) (.k (.int .i64 4)))⟩, 
  ⟨(some 117), none, (.mv (.t 118))⟩]) (.cond (.t 117) (.seq (.reg [⟨(some 119), none, (.mv (.t 8))⟩, ⟨(some 120), none, (.off 3 (.t 17))⟩, ⟨(some 121), none, (.ld none (.t 120))⟩, 
  ⟨(some 122), none, (.call f_files_Disk_Off [(.t 119), (.t 121)])⟩]) (.reg [⟨(some 123), none, (.mv (.t 9))⟩, ⟨(some 124), none, (.off 3 (.t 17))⟩, 
  ⟨(some 125), none, (.ld none (.t 124))⟩, ⟨(some 126), none, (.call f_r06_Disk_Off [(.t 123), (.t 125)])⟩])) (.seq 
  (.reg [⟨(some 128), none, (.eq false .i (.t 84) (.k (.int .i64 5)))⟩, ⟨(some 127), none, (.mv (.t 128))⟩]) (.cond (.t 127) (.seq (.reg [⟨(some 129), none, (.mv (.t 8))⟩, 
  ⟨(some 130), none, (.call f_files_Disk_On [(.t 129)])⟩]) (.reg [⟨(some 131), none, (.mv (.t 9))⟩, ⟨(some 132), none, (.call f_r06_Disk_On [(.t 131)])⟩])) (.seq (.seq 
  (.reg [⟨(some 134), none, (.eq false .i (.t 84) (.k (.int .i64 6)))⟩, ⟨(some 133), none, (.mv (.t 134))⟩]) (.cond (.t 133) .skip 
  (.reg [⟨(some 135), none, (.eq false .i (.t 84) (.k (.int .i64 7)))⟩, ⟨(some 133), none, (.mv (.t 135))⟩]))) (.cond (.t 133) (.seq (.seq 
  (.reg [⟨(some 136), none, (.off 0 (.t 17))⟩, ⟨(some 137), none, (.ld none (.t 136))⟩, ⟨(some 138), none, (.eq false .i (.t 137) (.k (.int .i64 7)))⟩]) (.cond (.t 138) (.seq 
  (.reg [⟨(some 139), none, (.mv (.t 8))⟩, ⟨(some 140), none, (.mv (.t 0))⟩, ⟨(some 141), none, (.off 1 (.t 17))⟩, ⟨(some 142), none, (.ld none (.t 141))⟩, 
  ⟨(some 143), none, (.call f_files_Disk_Append [(.t 139), (.t 140), (.t 142)])⟩]) (.reg [⟨(some 144), none, (.mv (.t 9))⟩, ⟨(some 145), none, (.mv (.t 0))⟩, 
  ⟨(some 146), none, (.off 1 (.t 17))⟩, ⟨(some 147), none, (.ld none (.t 146))⟩, ⟨(some 148), none, (.call f_r06_Disk_Append [(.t 144), (.t 145), (.t 147)])⟩])) .skip)) (.seq 
  (.reg [⟨(some 150), none, (.mv (.t 8))⟩, ⟨(some 151), none, (.mv (.t 0))⟩, ⟨(some 152), none, (.call f_wal_Open [(.t 150), (.t 151)])⟩, ⟨(some 149), none, (.mv (.t 152))⟩, 
  ⟨(some 153), none, (.ext 0 (.t 149))⟩, ⟨(some 154), none, (.ext 1 (.t 149))⟩, ⟨(some 155), none, (.ext 2 (.t 149))⟩, ⟨(some 10), none, (.mv (.t 153))⟩, 
  ⟨(some 11), none, (.mv (.t 154))⟩, ⟨(some 7), none, (.mv (.t 155))⟩]) (.seq (.reg [⟨(some 157), none, (.mv (.t 9))⟩, ⟨(some 158), none, (.mv (.t 0))⟩, 
  ⟨(some 159), none, (.call f_r07_Open [(.t 157), (.t 158)])⟩, ⟨(some 156), none, (.mv (.t 159))⟩, ⟨(some 160), none, (.ext 0 (.t 156))⟩, ⟨(some 161), none, (.ext 1 (.t 156))⟩, 
  ⟨(some 162), none, (.ext 2 (.t 156))⟩, ⟨(some 12), none, (.mv (.t 160))⟩, ⟨(some 13), none, (.mv (.t 161))⟩, ⟨(some 14), none, (.mv (.t 162))⟩]) (.seq 
  (.reg [⟨(some 163), none, (.mv (.t 7))⟩, ⟨(some 164), none, (.mv (.t 14))⟩, ⟨(some 165), none, (.eq true .i (.t 163) (.t 164))⟩, ⟨(some 166), none, (.mv (.t 165))⟩, 
  ⟨(some 167), (some (166, false)), (.mv (.t 10))⟩, ⟨(some 168), (some (166, false)), (.eq false .p (.t 167) (.k .nilp))⟩, ⟨(some 169), (some (166, false)), (.mv (.t 12))⟩, 
  ⟨(some 170), (some (166, false)), (.eq false .p (.t 169) (.k .nilp))⟩, ⟨(some 171), (some (166, false)), (.eq true .b (.t 168) (.t 170))⟩, 
  ⟨(some 172), none, (.pick (.t 166) (.k (.bool true)) (.t 171))⟩, ⟨(some 173), none, (.mv (.t 172))⟩, ⟨(some 174), (some (173, false)), (.mv (.t 11))⟩, 
  ⟨(some 175), (some (173, false)), (.mv (.t 13))⟩, ⟨(some 176), (some (173, false)), (.call f_w07_same [(.t 174), (.t 175)])⟩, 
  ⟨(some 177), (some (173, false)), (.un .not (.t 176))⟩, ⟨(some 178), none, (.pick (.t 173) (.k (.bool true)) (.t 177))⟩]) (.cond (.t 178) (.seq 
  (.reg [⟨(some 4), none, (.mv (.k (.bool false)))⟩]) .ret) .skip))))) .skip)))))))))))))) (.seq (.reg [⟨(some 179), none, (.mv (.t 10))⟩, 
  ⟨(some 180), none, (.call f_wal_Log_Size [(.t 179)])⟩, ⟨(some 181), none, (.mv (.t 12))⟩, ⟨(some 182), none, (.call f_r07_Log_Size [(.t 181)])⟩, 
  ⟨(some 183), none, (.eq true .i (.t 180) (.t 182))⟩, ⟨(some 184), none, (.mv (.t 183))⟩, ⟨(some 185), (some (184, false)), (.mv (.t 8))⟩, 
  ⟨(some 186), (some (184, false)), (.call f_files_Disk_Steps [(.t 185)])⟩, ⟨(some 187), (some (184, false)), (.mv (.t 9))⟩, 
  ⟨(some 188), (some (184, false)), (.call f_r06_Disk_Steps [(.t 187)])⟩, ⟨(some 189), (some (184, false)), (.eq true .i (.t 186) (.t 188))⟩, 
  ⟨(some 190), none, (.pick (.t 184) (.k (.bool true)) (.t 189))⟩, ⟨(some 191), none, (.mv (.t 190))⟩, ⟨(some 192), (some (191, false)), (.mv (.t 8))⟩, 
  ⟨(some 193), (some (191, false)), (.call f_files_Disk_Down [(.t 192)])⟩, ⟨(some 194), (some (191, false)), (.mv (.t 9))⟩, 
  ⟨(some 195), (some (191, false)), (.call f_r06_Disk_Down [(.t 194)])⟩, ⟨(some 196), (some (191, false)), (.eq true .b (.t 193) (.t 195))⟩, 
  ⟨(some 197), none, (.pick (.t 191) (.k (.bool true)) (.t 196))⟩]) (.cond (.t 197) (.seq (.reg [⟨(some 4), none, (.mv (.k (.bool false)))⟩]) .ret) .skip))))))) 
  (.reg [⟨(some 70), none, (.mv (.t 16))⟩, ⟨(some 71), none, (.bin .add (.t 70) (.k (.int .i64 1)))⟩, ⟨(some 16), none, (.mv (.t 71))⟩])))))) (.seq 
  (.reg [⟨(some 198), none, (.mv (.t 8))⟩, ⟨(some 199), none, (.call f_files_Disk_On [(.t 198)])⟩]) (.seq (.reg [⟨(some 200), none, (.mv (.t 9))⟩, 
  ⟨(some 201), none, (.call f_r06_Disk_On [(.t 200)])⟩]) (.seq (.reg [⟨(some 203), none, (.mv (.t 8))⟩, ⟨(some 204), none, (.mv (.t 0))⟩, 
  ⟨(some 205), none, (.call f_files_Disk_Read [(.t 203), (.t 204)])⟩, ⟨(some 202), none, (.mv (.t 205))⟩, ⟨(some 206), none, (.ext 0 (.t 202))⟩, 
  ⟨(some 207), none, (.ext 1 (.t 202))⟩, ⟨(some 18), none, (.mv (.t 206))⟩, ⟨(some 7), none, (.mv (.t 207))⟩]) (.seq (.reg [⟨(some 209), none, (.mv (.t 9))⟩, 
  ⟨(some 210), none, (.mv (.t 0))⟩, ⟨(some 211), none, (.call f_r06_Disk_Read [(.t 209), (.t 210)])⟩, ⟨(some 208), none, (.mv (.t 211))⟩, ⟨(some 212), none, (.ext 0 (.t 208))⟩, 
  ⟨(some 213), none, (.ext 1 (.t 208))⟩, ⟨(some 19), none, (.mv (.t 212))⟩, ⟨(some 14), none, (.mv (.t 213))⟩]) (.seq (.reg [⟨(some 214), none, (.mv (.t 18))⟩, 
  ⟨(some 215), none, (.mv (.t 19))⟩, ⟨(some 216), none, (.eq false .s (.t 214) (.t 215))⟩, ⟨(some 217), none, (.mv (.t 216))⟩, ⟨(some 218), (some (217, true)), (.mv (.t 7))⟩, 
  ⟨(some 219), (some (217, true)), (.mv (.t 14))⟩, ⟨(some 220), (some (217, true)), (.eq false .i (.t 218) (.t 219))⟩, 
  ⟨(some 221), none, (.pick (.t 217) (.t 220) (.k (.bool false)))⟩, ⟨(some 4), none, (.mv (.t 221))⟩]) .ret))))))))))))))))⟩
theorem c_w07_WalExact : compF Tryd.prog ⟨none, none⟩ Tryd.f6 = some r_w07_WalExact := by kernel_rfl
/-- tenancy/tenancylaw07.awake -/
def r_w07_awake : RF :=
  ⟨87, [(.tmp 0)], (.seq (.reg [⟨(some 0), none, (.mv (.k (.bool false)))⟩]) (.seq (.reg [⟨(some 14), none, (.call f_wal_Frame [(.k (.str (bts [97])))])⟩, 
  ⟨(some 13), none, (.mv (.t 14))⟩, ⟨(some 15), none, (.ext 0 (.t 13))⟩, ⟨(some 16), none, (.ext 1 (.t 13))⟩, ⟨(some 1), none, (.mv (.t 15))⟩, ⟨(some 2), none, (.mv (.t 16))⟩]) 
  (.seq (.reg [⟨(some 18), none, (.mv (.t 1))⟩, ⟨(some 19), none, (.mv (.t 1))⟩, ⟨(some 20), none, (.bin .add (.t 18) (.t 19))⟩, 
  ⟨(some 21), none, (.bin .add (.t 20) (.k (.str (bts [97, 98, 99]))))⟩, ⟨(some 22), none, (.call f_wal_Scan [(.t 21)])⟩, ⟨(some 17), none, (.mv (.t 22))⟩, 
  ⟨(some 23), none, (.ext 0 (.t 17))⟩, ⟨(some 24), none, (.ext 1 (.t 17))⟩, ⟨(some 3), none, (.mv (.t 23))⟩, ⟨(some 4), none, (.mv (.t 24))⟩]) (.seq 
  (.reg [⟨(some 25), none, (.call f_files_New [])⟩, ⟨(some 5), none, (.mv (.t 25))⟩]) (.seq (.reg [⟨(some 27), none, (.mv (.t 5))⟩, 
  ⟨(some 28), none, (.call f_wal_Open [(.t 27), (.k (.str (bts [108, 111, 103])))])⟩, ⟨(some 26), none, (.mv (.t 28))⟩, ⟨(some 29), none, (.ext 0 (.t 26))⟩, 
  ⟨(some 30), none, (.ext 1 (.t 26))⟩, ⟨(some 31), none, (.ext 2 (.t 26))⟩, ⟨(some 6), none, (.mv (.t 29))⟩, ⟨(some 7), none, (.mv (.t 30))⟩, ⟨(some 8), none, (.mv (.t 31))⟩]) (.seq 
  (.reg [⟨(some 32), none, (.mv (.t 6))⟩, ⟨(some 33), none, (.call f_wal_Log_Append [(.t 32), (.k (.str (bts [97])))])⟩, ⟨(some 9), none, (.mv (.t 33))⟩]) (.seq 
  (.reg [⟨(some 34), none, (.mv (.t 6))⟩, ⟨(some 35), none, (.call f_wal_Log_Sync [(.t 34)])⟩, ⟨(some 10), none, (.mv (.t 35))⟩]) (.seq (.reg [⟨(some 37), none, (.mv (.t 5))⟩, 
  ⟨(some 38), none, (.call f_files_Disk_Read [(.t 37), (.k (.str (bts [108, 111, 103])))])⟩, ⟨(some 36), none, (.mv (.t 38))⟩, ⟨(some 39), none, (.ext 0 (.t 36))⟩, 
  ⟨(some 40), none, (.ext 1 (.t 36))⟩, ⟨(some 11), none, (.mv (.t 39))⟩, ⟨(some 12), none, (.mv (.t 40))⟩]) (.seq (.reg [⟨(some 41), none, (.mv (.t 1))⟩, 
  ⟨(some 42), none, (.eq false .s (.t 41) (.k (.str (bts [0, 0, 0, 1, 232, 183, 190, 67, 97]))))⟩, ⟨(some 43), none, (.mv (.t 42))⟩, ⟨(some 44), (some (43, true)), (.mv (.t 2))⟩, 
  ⟨(some 45), (some (43, true)), (.eq false .i (.t 44) (.k (.int .i64 0)))⟩, ⟨(some 46), none, (.pick (.t 43) (.t 45) (.k (.bool false)))⟩, ⟨(some 47), none, (.mv (.t 46))⟩, 
  ⟨(some 48), (some (47, true)), (.mv (.t 3))⟩, ⟨(some 49), (some (47, true)), (.bsl 1 2 [(.str (bts []))] [(0, (1, (.k (.str (bts [97]))))), (1, (1, (.k (.str (bts [97])))))])⟩, 
  ⟨(some 50), (some (47, true)), (.call f_w07_same [(.t 48), (.t 49)])⟩, ⟨(some 51), none, (.pick (.t 47) (.t 50) (.k (.bool false)))⟩, ⟨(some 52), none, (.mv (.t 51))⟩, 
  ⟨(some 53), (some (52, true)), (.mv (.t 4))⟩, ⟨(some 54), (some (52, true)), (.eq false .i (.t 53) (.k (.int .i64 18)))⟩, 
  ⟨(some 55), none, (.pick (.t 52) (.t 54) (.k (.bool false)))⟩, ⟨(some 56), none, (.mv (.t 55))⟩, ⟨(some 57), (some (56, true)), (.mv (.t 8))⟩, 
  ⟨(some 58), (some (56, true)), (.eq false .i (.t 57) (.k (.int .i64 0)))⟩, ⟨(some 59), none, (.pick (.t 56) (.t 58) (.k (.bool false)))⟩, ⟨(some 60), none, (.mv (.t 59))⟩, 
  ⟨(some 61), (some (60, true)), (.mv (.t 7))⟩, ⟨(some 62), (some (60, true)), (.lenl (.t 61))⟩, ⟨(some 63), (some (60, true)), (.eq false .i (.t 62) (.k (.int .i64 0)))⟩, 
  ⟨(some 64), none, (.pick (.t 60) (.t 63) (.k (.bool false)))⟩, ⟨(some 65), none, (.mv (.t 64))⟩, ⟨(some 66), (some (65, true)), (.mv (.t 9))⟩, 
  ⟨(some 67), (some (65, true)), (.eq false .i (.t 66) (.k (.int .i64 0)))⟩, ⟨(some 68), none, (.pick (.t 65) (.t 67) (.k (.bool false)))⟩, ⟨(some 69), none, (.mv (.t 68))⟩, 
  ⟨(some 70), (some (69, true)), (.mv (.t 10))⟩, ⟨(some 71), (some (69, true)), (.eq false .i (.t 70) (.k (.int .i64 0)))⟩, 
  ⟨(some 72), none, (.pick (.t 69) (.t 71) (.k (.bool false)))⟩, ⟨(some 73), none, (.mv (.t 72))⟩, ⟨(some 74), (some (73, true)), (.mv (.t 11))⟩, 
  ⟨(some 75), (some (73, true)), (.mv (.t 1))⟩, ⟨(some 76), (some (73, true)), (.eq false .s (.t 74) (.t 75))⟩, ⟨(some 77), none, (.pick (.t 73) (.t 76) (.k (.bool false)))⟩, 
  ⟨(some 78), none, (.mv (.t 77))⟩, ⟨(some 79), (some (78, true)), (.mv (.t 12))⟩, ⟨(some 80), (some (78, true)), (.eq false .i (.t 79) (.k (.int .i64 0)))⟩, 
  ⟨(some 81), none, (.pick (.t 78) (.t 80) (.k (.bool false)))⟩, ⟨(some 82), none, (.mv (.t 81))⟩, ⟨(some 83), (some (82, true)), (.mv (.t 6))⟩, 
  ⟨(some 84), (some (82, true)), (.call f_wal_Log_Size [(.t 83)])⟩, ⟨(some 85), (some (82, true)), (.eq false .i (.t 84) (.k (.int .i64 9)))⟩, 
  ⟨(some 86), none, (.pick (.t 82) (.t 85) (.k (.bool false)))⟩, ⟨(some 0), none, (.mv (.t 86))⟩]) .ret)))))))))⟩
theorem c_w07_awake : compF Tryd.prog ⟨none, none⟩ Tryd.f7 = some r_w07_awake := by kernel_rfl
/-- tenancy/wal.Frame -/
def r_wal_Frame : RF :=
  ⟨18, [(.tmp 2), (.tmp 3)], (.seq (.reg [⟨(some 2), none, (.mv (.k (.str (bts []))))⟩, ⟨(some 3), none, (.mv (.k (.int .i64 0)))⟩]) (.seq (.seq 
  (.reg [⟨(some 4), none, (.mv (.t 0))⟩, ⟨(some 5), none, (.lens (.t 4))⟩, ⟨(some 6), none, (.call f_wal_isRecord [(.t 5)])⟩, ⟨(some 7), none, (.un .not (.t 6))⟩]) (.cond (.t 7) 
  (.seq (.reg [⟨(some 2), none, (.mv (.k (.str (bts []))))⟩, ⟨(some 3), none, (.mv (.k (.int .i64 1)))⟩]) .ret) .skip)) (.seq (.reg [⟨(some 8), none, (.mv (.t 0))⟩, 
  ⟨(some 9), none, (.lens (.t 8))⟩, ⟨(some 10), none, (.cvi .u32 (.t 9))⟩, ⟨(some 11), none, (.call f_octet_Put32 [(.t 10)])⟩, ⟨(some 12), none, (.mv (.t 0))⟩, 
  ⟨(some 13), none, (.call f_digest_CRC [(.t 12)])⟩, ⟨(some 14), none, (.call f_octet_Put32 [(.t 13)])⟩, ⟨(some 15), none, (.bin .add (.t 11) (.t 14))⟩, 
  ⟨(some 16), none, (.mv (.t 0))⟩, ⟨(some 17), none, (.bin .add (.t 15) (.t 16))⟩, ⟨(some 2), none, (.mv (.t 17))⟩, ⟨(some 3), none, (.mv (.k (.int .i64 0)))⟩]) .ret)))⟩
theorem c_wal_Frame : compF Tryd.prog ⟨none, none⟩ Tryd.f8 = some r_wal_Frame := by kernel_rfl
/-- tenancy/tenancyref07.Frame -/
def r_r07_Frame : RF :=
  ⟨22, [(.tmp 2), (.tmp 3)], (.seq (.reg [⟨(some 2), none, (.mv (.k (.str (bts []))))⟩, ⟨(some 3), none, (.mv (.k (.int .i64 0)))⟩]) (.seq (.seq 
  (.reg [⟨(some 4), none, (.mv (.t 0))⟩, ⟨(some 5), none, (.lens (.t 4))⟩, ⟨(some 6), none, (.bin .lss (.t 5) (.k (.int .i64 1)))⟩, ⟨(some 7), none, (.mv (.t 6))⟩, 
  ⟨(some 8), (some (7, false)), (.mv (.t 0))⟩, ⟨(some 9), (some (7, false)), (.lens (.t 8))⟩, ⟨(some 10), (some (7, false)), (.bin .gtr (.t 9) (.k (.int .i64 65536)))⟩, 
  ⟨(some 11), none, (.pick (.t 7) (.k (.bool true)) (.t 10))⟩]) (.cond (.t 11) (.seq (.reg [⟨(some 2), none, (.mv (.k (.str (bts []))))⟩, 
  ⟨(some 3), none, (.mv (.k (.int .i64 1)))⟩]) .ret) .skip)) (.seq (.reg [⟨(some 12), none, (.mv (.t 0))⟩, ⟨(some 13), none, (.lens (.t 12))⟩, 
  ⟨(some 14), none, (.cvi .u32 (.t 13))⟩, ⟨(some 15), none, (.call f_r04_Put32 [(.t 14)])⟩, ⟨(some 16), none, (.mv (.t 0))⟩, ⟨(some 17), none, (.call f_r05_CRC [(.t 16)])⟩, 
  ⟨(some 18), none, (.call f_r04_Put32 [(.t 17)])⟩, ⟨(some 19), none, (.bin .add (.t 15) (.t 18))⟩, ⟨(some 20), none, (.mv (.t 0))⟩, ⟨(some 21), none, (.bin .add (.t 19) (.t 20))⟩, 
  ⟨(some 2), none, (.mv (.t 21))⟩, ⟨(some 3), none, (.mv (.k (.int .i64 0)))⟩]) .ret)))⟩
theorem c_r07_Frame : compF Tryd.prog ⟨none, none⟩ Tryd.f9 = some r_r07_Frame := by kernel_rfl
/-- tenancy/wal.Scan -/
def r_wal_Scan : RF :=
  ⟨21, [(.tmp 2), (.tmp 3)], (.seq (.reg [⟨(some 2), none, (.mv (.k .nils))⟩, ⟨(some 3), none, (.mv (.k (.int .i64 0)))⟩]) (.seq (.reg [⟨(some 4), none, (.new [.nils])⟩]) (.seq 
  (.reg [⟨(some 5), none, (.new [(.int .i64 0)])⟩, ⟨none, none, (.st none (.t 5) (.k (.int .i64 0)))⟩]) (.seq (.seq (.reg [⟨(some 7), none, (.mv (.t 0))⟩, 
  ⟨(some 8), none, (.call f_wal_frames [(.t 7)])⟩]) (.block 0 .fail)) (.seq (.drw 0 [⟨⟨(some 19), none, (.ld none (.t 4))⟩, .ld, [], []⟩, 
  ⟨⟨(some 20), none, (.ld none (.t 5))⟩, .ld, [], []⟩, ⟨⟨(some 2), none, (.mv (.t 19))⟩, .pure, [1], []⟩, ⟨⟨(some 3), none, (.mv (.t 20))⟩, .pure, [], []⟩]) .ret)))))⟩
theorem c_wal_Scan : compF Tryd.prog ⟨none, none⟩ Tryd.f10 = some r_wal_Scan := by kernel_rfl
/-- tenancy/tenancyref07.Scan -/
def r_r07_Scan : RF :=
  ⟨28, [(.tmp 2), (.tmp 3)], (.seq (.reg [⟨(some 2), none, (.mv (.k .nils))⟩, ⟨(some 3), none, (.mv (.k (.int .i64 0)))⟩]) (.seq 
  (.reg [⟨(some 8), none, (.bsl 1 0 [(.str (bts []))] [])⟩, ⟨(some 4), none, (.mv (.t 8))⟩]) (.seq (.reg [⟨(some 5), none, (.mv (.k (.int .i64 0)))⟩]) (.block 0 (.loop (.block 1 
  (.seq (.reg [⟨(some 10), none, (.mv (.t 0))⟩, ⟨(some 11), none, (.mv (.t 5))⟩, ⟨(some 12), none, (.call f_r07_one [(.t 10), (.t 11)])⟩, ⟨(some 9), none, (.mv (.t 12))⟩, 
  ⟨(some 13), none, (.ext 0 (.t 9))⟩, ⟨(some 14), none, (.ext 1 (.t 9))⟩, ⟨(some 6), none, (.mv (.t 13))⟩, ⟨(some 7), none, (.mv (.t 14))⟩]) (.seq (.seq 
  (.reg [⟨(some 15), none, (.mv (.t 7))⟩, ⟨(some 16), none, (.un .not (.t 15))⟩]) (.cond (.t 16) (.seq (.reg [⟨(some 17), none, (.mv (.t 4))⟩, ⟨(some 18), none, (.mv (.t 5))⟩, 
  ⟨(some 2), none, (.mv (.t 17))⟩, ⟨(some 3), none, (.mv (.t 18))⟩]) .ret) .skip)) (.seq (.reg [⟨(some 19), none, (.mv (.t 4))⟩, ⟨(some 20), none, (.mv (.t 6))⟩, 
  ⟨(some 21), none, (.bsl 1 1 [(.str (bts []))] [(0, (1, (.t 20)))])⟩, ⟨(some 22), none, (.app 1 16 (.t 19) (.t 21))⟩, ⟨(some 4), none, (.mv (.t 22))⟩]) 
  (.reg [⟨(some 23), none, (.mv (.t 5))⟩, ⟨(some 24), none, (.bin .add (.t 23) (.k (.int .i64 8)))⟩, ⟨(some 25), none, (.mv (.t 6))⟩, ⟨(some 26), none, (.lens (.t 25))⟩, 
  ⟨(some 27), none, (.bin .add (.t 24) (.t 26))⟩, ⟨(some 5), none, (.mv (.t 27))⟩]))))))))))⟩
theorem c_r07_Scan : compF Tryd.prog ⟨none, none⟩ Tryd.f11 = some r_r07_Scan := by kernel_rfl
/-- tenancy/tenancylaw07.same -/
def r_w07_same : RF :=
  ⟨26, [(.tmp 4)], (.seq (.reg [⟨(some 4), none, (.mv (.k (.bool false)))⟩]) (.seq (.seq (.reg [⟨(some 6), none, (.mv (.t 0))⟩, ⟨(some 7), none, (.lenl (.t 6))⟩, 
  ⟨(some 8), none, (.mv (.t 1))⟩, ⟨(some 9), none, (.lenl (.t 8))⟩, ⟨(some 10), none, (.eq true .i (.t 7) (.t 9))⟩]) (.cond (.t 10) (.seq 
  (.reg [⟨(some 4), none, (.mv (.k (.bool false)))⟩]) .ret) .skip)) (.seq (.seq (.reg [⟨(some 5), none, (.mv (.k (.int .i64 0)))⟩]) (.block 0 (.loop (.seq (.seq 
  (.reg [⟨(some 11), none, (.mv (.t 5))⟩, ⟨(some 12), none, (.mv (.t 0))⟩, ⟨(some 13), none, (.lenl (.t 12))⟩, ⟨(some 14), none, (.bin .lss (.t 11) (.t 13))⟩]) 
  (.cond (.t 14) .skip (.exit 0))) (.seq (.block 1 (.seq (.drw 0 [⟨⟨(some 17), none, (.mv (.t 0))⟩, .pure, [], []⟩, ⟨⟨(some 18), none, (.mv (.t 5))⟩, .pure, [], []⟩, 
  ⟨⟨(some 19), none, (.ixa 1 (.t 17) (.t 18))⟩, .pure, [], []⟩, ⟨⟨(some 20), none, (.ld none (.t 19))⟩, .ld, [], []⟩, ⟨⟨(some 21), none, (.mv (.t 1))⟩, .pure, [3], []⟩, 
  ⟨⟨(some 22), none, (.mv (.t 5))⟩, .pure, [3], []⟩, ⟨⟨(some 23), none, (.ixa 1 (.t 21) (.t 22))⟩, .pure, [3], []⟩, ⟨⟨(some 24), none, (.ld none (.t 23))⟩, .ld, [], []⟩, 
  ⟨⟨(some 25), none, (.eq true .s (.t 20) (.t 24))⟩, .pure, [], []⟩]) (.cond (.t 25) (.seq (.reg [⟨(some 4), none, (.mv (.k (.bool false)))⟩]) .ret) .skip))) 
  (.reg [⟨(some 15), none, (.mv (.t 5))⟩, ⟨(some 16), none, (.bin .add (.t 15) (.k (.int .i64 1)))⟩, ⟨(some 5), none, (.mv (.t 16))⟩])))))) (.seq 
  (.reg [⟨(some 4), none, (.mv (.k (.bool true)))⟩]) .ret))))⟩
theorem c_w07_same : compF Tryd.prog ⟨none, none⟩ Tryd.f12 = some r_w07_same := by kernel_rfl
/-- tenancy/files.New -/
def r_files_New : RF :=
  ⟨4, [(.tmp 0)], (.seq (.reg [⟨(some 0), none, (.mv (.k .nilp))⟩]) (.seq (.reg [⟨(some 1), none, (.xt .mkm [])⟩, 
  ⟨(some 2), none, (.bld [.nilm, (.bool false), (.bool false), (.int .i64 0), (.int .i64 0), (.int .i64 0)] [(0, (1, (.t 1)))])⟩, ⟨(some 3), none, (.box (some 6) (.t 2))⟩, 
  ⟨(some 0), none, (.mv (.t 3))⟩]) .ret))⟩
theorem c_files_New : compF Tryd.prog ⟨none, none⟩ Tryd.f13 = some r_files_New := by kernel_rfl
/-- tenancy/wal.Open -/
def r_wal_Open : RF :=
  ⟨47, [(.tmp 4), (.tmp 5), (.tmp 6)], (.seq (.reg [⟨(some 4), none, (.mv (.k .nilp))⟩, ⟨(some 5), none, (.mv (.k .nils))⟩, ⟨(some 6), none, (.mv (.k (.int .i64 0)))⟩]) (.seq 
  (.reg [⟨(some 13), none, (.mv (.t 0))⟩, ⟨(some 14), none, (.mv (.t 1))⟩, ⟨(some 15), none, (.call f_files_Disk_Read [(.t 13), (.t 14)])⟩, ⟨(some 12), none, (.mv (.t 15))⟩, 
  ⟨(some 16), none, (.ext 0 (.t 12))⟩, ⟨(some 17), none, (.ext 1 (.t 12))⟩, ⟨(some 7), none, (.mv (.t 16))⟩, ⟨(some 8), none, (.mv (.t 17))⟩]) (.seq (.seq 
  (.reg [⟨(some 18), none, (.mv (.t 8))⟩, ⟨(some 19), none, (.eq true .i (.t 18) (.k (.int .i64 0)))⟩, ⟨(some 20), none, (.mv (.t 19))⟩, 
  ⟨(some 21), (some (20, true)), (.mv (.t 8))⟩, ⟨(some 22), (some (20, true)), (.eq true .i (.t 21) (.k (.int .i64 62)))⟩, 
  ⟨(some 23), none, (.pick (.t 20) (.t 22) (.k (.bool false)))⟩]) (.cond (.t 23) (.seq (.reg [⟨(some 24), none, (.mv (.t 8))⟩, ⟨(some 4), none, (.mv (.k .nilp))⟩, 
  ⟨(some 5), none, (.mv (.k .nils))⟩, ⟨(some 6), none, (.mv (.t 24))⟩]) .ret) .skip)) (.seq (.reg [⟨(some 26), none, (.mv (.t 7))⟩, ⟨(some 27), none, (.call f_wal_Scan [(.t 26)])⟩, 
  ⟨(some 25), none, (.mv (.t 27))⟩, ⟨(some 28), none, (.ext 0 (.t 25))⟩, ⟨(some 29), none, (.ext 1 (.t 25))⟩, ⟨(some 9), none, (.mv (.t 28))⟩, ⟨(some 10), none, (.mv (.t 29))⟩]) 
  (.seq (.seq (.reg [⟨(some 30), none, (.mv (.t 10))⟩, ⟨(some 31), none, (.mv (.t 7))⟩, ⟨(some 32), none, (.lens (.t 31))⟩, ⟨(some 33), none, (.bin .lss (.t 30) (.t 32))⟩]) 
  (.cond (.t 33) (.seq (.reg [⟨(some 34), none, (.mv (.t 0))⟩, ⟨(some 35), none, (.mv (.t 1))⟩, ⟨(some 36), none, (.mv (.t 10))⟩, 
  ⟨(some 37), none, (.call f_files_Disk_Cut [(.t 34), (.t 35), (.t 36)])⟩, ⟨(some 11), none, (.mv (.t 37))⟩]) (.seq (.reg [⟨(some 38), none, (.mv (.t 11))⟩, 
  ⟨(some 39), none, (.eq true .i (.t 38) (.k (.int .i64 0)))⟩]) (.cond (.t 39) (.seq (.reg [⟨(some 40), none, (.mv (.t 11))⟩, ⟨(some 4), none, (.mv (.k .nilp))⟩, 
  ⟨(some 5), none, (.mv (.k .nils))⟩, ⟨(some 6), none, (.mv (.t 40))⟩]) .ret) .skip))) .skip)) (.seq (.reg [⟨(some 41), none, (.mv (.t 0))⟩, ⟨(some 42), none, (.mv (.t 1))⟩, 
  ⟨(some 43), none, (.mv (.t 10))⟩, ⟨(some 44), none, (.bld [.nilp, (.str (bts [])), (.int .i64 0), (.bool false)] [(0, (1, (.t 41))), (1, (1, (.t 42))), (2, (1, (.t 43)))])⟩, 
  ⟨(some 45), none, (.box (some 4) (.t 44))⟩, ⟨(some 46), none, (.mv (.t 9))⟩, ⟨(some 4), none, (.mv (.t 45))⟩, ⟨(some 5), none, (.mv (.t 46))⟩, 
  ⟨(some 6), none, (.mv (.k (.int .i64 0)))⟩]) .ret))))))⟩
theorem c_wal_Open : compF Tryd.prog ⟨none, none⟩ Tryd.f14 = some r_wal_Open := by kernel_rfl
/-- (*tenancy/files.Disk).Arm -/
def r_files_Disk_Arm : RF :=
  ⟨28, [], (.seq (.reg [⟨(some 6), none, (.mv (.t 0))⟩, ⟨(some 7), none, (.eq true .p (.t 6) (.k .nilp))⟩, ⟨(some 8), none, (.mv (.t 7))⟩, 
  ⟨(some 9), (some (8, true)), (.mv (.t 0))⟩, ⟨(some 10), (some (8, true)), (.nck (.t 9))⟩, ⟨(some 11), (some (8, true)), (.off 1 (.t 10))⟩, 
  ⟨(some 12), (some (8, true)), (.ld none (.t 11))⟩, ⟨(some 13), (some (8, true)), (.un .not (.t 12))⟩, ⟨(some 14), none, (.pick (.t 8) (.t 13) (.k (.bool false)))⟩]) (.cond (.t 14) 
  (.reg [⟨(some 15), none, (.mv (.t 0))⟩, ⟨(some 16), none, (.mv (.t 0))⟩, ⟨(some 17), none, (.mv (.t 0))⟩, ⟨(some 18), none, (.mv (.t 1))⟩, 
  ⟨(some 19), none, (.bin .geq (.t 18) (.k (.int .i64 0)))⟩, ⟨(some 20), none, (.mv (.t 1))⟩, ⟨(some 21), none, (.mv (.t 2))⟩, ⟨(some 22), none, (.nck (.t 15))⟩, 
  ⟨(some 23), none, (.off 2 (.t 22))⟩, ⟨none, none, (.st none (.t 23) (.t 19))⟩, ⟨(some 24), none, (.nck (.t 16))⟩, ⟨(some 25), none, (.off 3 (.t 24))⟩, 
  ⟨none, none, (.st none (.t 25) (.t 20))⟩, ⟨(some 26), none, (.nck (.t 17))⟩, ⟨(some 27), none, (.off 4 (.t 26))⟩, ⟨none, none, (.st none (.t 27) (.t 21))⟩]) .skip))⟩
theorem c_files_Disk_Arm : compF Tryd.prog ⟨none, none⟩ Tryd.f15 = some r_files_Disk_Arm := by kernel_rfl
/-- (*tenancy/files.Disk).Down -/
def r_files_Disk_Down : RF :=
  ⟨11, [(.tmp 2)], (.seq (.reg [⟨(some 2), none, (.mv (.k (.bool false)))⟩]) (.seq (.reg [⟨(some 3), none, (.mv (.t 0))⟩, ⟨(some 4), none, (.eq true .p (.t 3) (.k .nilp))⟩, 
  ⟨(some 5), none, (.mv (.t 4))⟩, ⟨(some 6), (some (5, true)), (.mv (.t 0))⟩, ⟨(some 7), (some (5, true)), (.nck (.t 6))⟩, ⟨(some 8), (some (5, true)), (.off 1 (.t 7))⟩, 
  ⟨(some 9), (some (5, true)), (.ld none (.t 8))⟩, ⟨(some 10), none, (.pick (.t 5) (.t 9) (.k (.bool false)))⟩, ⟨(some 2), none, (.mv (.t 10))⟩]) .ret))⟩
theorem c_files_Disk_Down : compF Tryd.prog ⟨none, none⟩ Tryd.f16 = some r_files_Disk_Down := by kernel_rfl
/-- (*tenancy/wal.Log).Append -/
def r_wal_Log_Append : RF :=
  ⟨49, [(.tmp 4)], (.seq (.reg [⟨(some 4), none, (.mv (.k (.int .i64 0)))⟩]) (.seq (.seq (.reg [⟨(some 8), none, (.mv (.t 0))⟩, ⟨(some 9), none, (.call f_wal_Log_check [(.t 8)])⟩, 
  ⟨(some 5), none, (.mv (.t 9))⟩]) (.seq (.reg [⟨(some 10), none, (.mv (.t 5))⟩, ⟨(some 11), none, (.eq true .i (.t 10) (.k (.int .i64 0)))⟩]) (.cond (.t 11) (.seq 
  (.reg [⟨(some 12), none, (.mv (.t 5))⟩, ⟨(some 4), none, (.mv (.t 12))⟩]) .ret) .skip))) (.seq (.reg [⟨(some 14), none, (.mv (.t 1))⟩, 
  ⟨(some 15), none, (.call f_wal_Frame [(.t 14)])⟩, ⟨(some 13), none, (.mv (.t 15))⟩, ⟨(some 16), none, (.ext 0 (.t 13))⟩, ⟨(some 17), none, (.ext 1 (.t 13))⟩, 
  ⟨(some 6), none, (.mv (.t 16))⟩, ⟨(some 7), none, (.mv (.t 17))⟩]) (.seq (.seq (.reg [⟨(some 18), none, (.mv (.t 7))⟩, 
  ⟨(some 19), none, (.eq true .i (.t 18) (.k (.int .i64 0)))⟩]) (.cond (.t 19) (.seq (.reg [⟨(some 20), none, (.mv (.t 7))⟩, ⟨(some 4), none, (.mv (.t 20))⟩]) .ret) .skip)) (.seq 
  (.drw 0 [⟨⟨(some 21), none, (.mv (.t 0))⟩, .pure, [], []⟩, ⟨⟨(some 22), none, (.nck (.t 21))⟩, .pure, [], []⟩, ⟨⟨(some 23), none, (.off 0 (.t 22))⟩, .pure, [], []⟩, 
  ⟨⟨(some 24), none, (.ld none (.t 23))⟩, .ld, [], []⟩, ⟨⟨(some 25), none, (.mv (.t 0))⟩, .pure, [3], []⟩, ⟨⟨(some 26), none, (.nck (.t 25))⟩, .pure, [3], []⟩, 
  ⟨⟨(some 27), none, (.off 1 (.t 26))⟩, .pure, [3], []⟩, ⟨⟨(some 28), none, (.ld none (.t 27))⟩, .ld, [], []⟩, ⟨⟨(some 29), none, (.mv (.t 6))⟩, .pure, [3, 7], []⟩, 
  ⟨⟨(some 30), none, (.call f_files_Disk_Append [(.t 24), (.t 28), (.t 29)])⟩, .eff, [], []⟩, ⟨⟨(some 7), none, (.mv (.t 30))⟩, .pure, [], []⟩]) (.seq (.seq 
  (.reg [⟨(some 31), none, (.mv (.t 7))⟩]) (.block 0 (.seq (.reg [⟨(some 33), none, (.eq false .i (.t 31) (.k (.int .i64 0)))⟩, ⟨(some 32), none, (.mv (.t 33))⟩]) (.cond (.t 32) 
  (.reg [⟨(some 34), none, (.mv (.t 0))⟩, ⟨(some 35), none, (.nck (.t 34))⟩, ⟨(some 36), none, (.off 2 (.t 35))⟩, ⟨(some 37), none, (.ld none (.t 36))⟩, 
  ⟨(some 38), none, (.mv (.t 6))⟩, ⟨(some 39), none, (.lens (.t 38))⟩, ⟨(some 40), none, (.bin .add (.t 37) (.t 39))⟩, ⟨(some 41), none, (.nck (.t 34))⟩, 
  ⟨(some 42), none, (.off 2 (.t 41))⟩, ⟨none, none, (.st none (.t 42) (.t 40))⟩]) (.seq (.reg [⟨(some 44), none, (.eq false .i (.t 31) (.k (.int .i64 60)))⟩, 
  ⟨(some 43), none, (.mv (.t 44))⟩]) (.cond (.t 43) (.reg [⟨(some 45), none, (.mv (.t 0))⟩, ⟨(some 46), none, (.nck (.t 45))⟩, ⟨(some 47), none, (.off 3 (.t 46))⟩, 
  ⟨none, none, (.st none (.t 47) (.k (.bool true)))⟩]) .skip)))))) (.seq (.reg [⟨(some 48), none, (.mv (.t 7))⟩, ⟨(some 4), none, (.mv (.t 48))⟩]) .ret)))))))⟩
theorem c_wal_Log_Append : compF Tryd.prog ⟨none, none⟩ Tryd.f17 = some r_wal_Log_Append := by kernel_rfl
/-- (*tenancy/wal.Log).Sync -/
def r_wal_Log_Sync : RF :=
  ⟨28, [(.tmp 2)], (.seq (.reg [⟨(some 2), none, (.mv (.k (.int .i64 0)))⟩]) (.seq (.seq (.reg [⟨(some 5), none, (.mv (.t 0))⟩, ⟨(some 6), none, (.call f_wal_Log_check [(.t 5)])⟩, 
  ⟨(some 3), none, (.mv (.t 6))⟩]) (.seq (.reg [⟨(some 7), none, (.mv (.t 3))⟩, ⟨(some 8), none, (.eq true .i (.t 7) (.k (.int .i64 0)))⟩]) (.cond (.t 8) (.seq 
  (.reg [⟨(some 9), none, (.mv (.t 3))⟩, ⟨(some 2), none, (.mv (.t 9))⟩]) .ret) .skip))) (.seq (.drw 0 [⟨⟨(some 10), none, (.mv (.t 0))⟩, .pure, [], []⟩, 
  ⟨⟨(some 11), none, (.nck (.t 10))⟩, .pure, [], []⟩, ⟨⟨(some 12), none, (.off 0 (.t 11))⟩, .pure, [], []⟩, ⟨⟨(some 13), none, (.ld none (.t 12))⟩, .ld, [], []⟩, 
  ⟨⟨(some 14), none, (.mv (.t 0))⟩, .pure, [3], []⟩, ⟨⟨(some 15), none, (.nck (.t 14))⟩, .pure, [3], []⟩, ⟨⟨(some 16), none, (.off 1 (.t 15))⟩, .pure, [3], []⟩, 
  ⟨⟨(some 17), none, (.ld none (.t 16))⟩, .ld, [], []⟩, ⟨⟨(some 18), none, (.call f_files_Disk_Sync [(.t 13), (.t 17)])⟩, .eff, [], []⟩, 
  ⟨⟨(some 4), none, (.mv (.t 18))⟩, .pure, [], []⟩]) (.seq (.seq (.reg [⟨(some 19), none, (.mv (.t 4))⟩]) (.block 0 (.seq 
  (.reg [⟨(some 21), none, (.eq false .i (.t 19) (.k (.int .i64 62)))⟩, ⟨(some 20), none, (.mv (.t 21))⟩]) (.cond (.t 20) (.seq 
  (.reg [⟨(some 2), none, (.mv (.k (.int .i64 0)))⟩]) .ret) (.seq (.reg [⟨(some 23), none, (.eq false .i (.t 19) (.k (.int .i64 60)))⟩, ⟨(some 22), none, (.mv (.t 23))⟩]) 
  (.cond (.t 22) (.reg [⟨(some 24), none, (.mv (.t 0))⟩, ⟨(some 25), none, (.nck (.t 24))⟩, ⟨(some 26), none, (.off 3 (.t 25))⟩, 
  ⟨none, none, (.st none (.t 26) (.k (.bool true)))⟩]) .skip)))))) (.seq (.reg [⟨(some 27), none, (.mv (.t 4))⟩, ⟨(some 2), none, (.mv (.t 27))⟩]) .ret)))))⟩
theorem c_wal_Log_Sync : compF Tryd.prog ⟨none, none⟩ Tryd.f18 = some r_wal_Log_Sync := by kernel_rfl
/-- (*tenancy/files.Disk).Off -/
def r_files_Disk_Off : RF :=
  ⟨16, [], (.seq (.reg [⟨(some 4), none, (.mv (.t 0))⟩, ⟨(some 5), none, (.eq true .p (.t 4) (.k .nilp))⟩, ⟨(some 6), none, (.mv (.t 5))⟩, 
  ⟨(some 7), (some (6, true)), (.mv (.t 0))⟩, ⟨(some 8), (some (6, true)), (.nck (.t 7))⟩, ⟨(some 9), (some (6, true)), (.off 1 (.t 8))⟩, 
  ⟨(some 10), (some (6, true)), (.ld none (.t 9))⟩, ⟨(some 11), (some (6, true)), (.un .not (.t 10))⟩, ⟨(some 12), none, (.pick (.t 6) (.t 11) (.k (.bool false)))⟩]) (.cond (.t 12) 
  (.reg [⟨(some 13), none, (.mv (.t 0))⟩, ⟨(some 14), none, (.mv (.t 1))⟩, ⟨(some 15), none, (.call f_files_Disk_lose [(.t 13), (.t 14)])⟩]) .skip))⟩
theorem c_files_Disk_Off : compF Tryd.prog ⟨none, none⟩ Tryd.f19 = some r_files_Disk_Off := by kernel_rfl
/-- (*tenancy/files.Disk).On -/
def r_files_Disk_On : RF :=
  ⟨10, [], (.seq (.reg [⟨(some 2), none, (.mv (.t 0))⟩, ⟨(some 3), none, (.eq true .p (.t 2) (.k .nilp))⟩]) (.cond (.t 3) (.reg [⟨(some 4), none, (.mv (.t 0))⟩, 
  ⟨(some 5), none, (.mv (.t 0))⟩, ⟨(some 6), none, (.nck (.t 4))⟩, ⟨(some 7), none, (.off 1 (.t 6))⟩, ⟨none, none, (.st none (.t 7) (.k (.bool false)))⟩, 
  ⟨(some 8), none, (.nck (.t 5))⟩, ⟨(some 9), none, (.off 2 (.t 8))⟩, ⟨none, none, (.st none (.t 9) (.k (.bool false)))⟩]) .skip))⟩
theorem c_files_Disk_On : compF Tryd.prog ⟨none, none⟩ Tryd.f20 = some r_files_Disk_On := by kernel_rfl
/-- tenancy/tenancyref06.New -/
def r_r06_New : RF :=
  ⟨3, [(.tmp 0)], (.seq (.reg [⟨(some 0), none, (.mv (.k .nilp))⟩]) (.seq 
  (.reg [⟨(some 1), none, (.bld [.nils, (.bool false), (.int .i64 0), (.int .i64 0), (.int .i64 0)] [(2, (1, (.k (.int .i64 (-1)))))])⟩, ⟨(some 2), none, (.box (some 5) (.t 1))⟩, 
  ⟨(some 0), none, (.mv (.t 2))⟩]) .ret))⟩
theorem c_r06_New : compF Tryd.prog ⟨none, none⟩ Tryd.f21 = some r_r06_New := by kernel_rfl
/-- tenancy/tenancyref07.Open -/
def r_r07_Open : RF :=
  ⟨47, [(.tmp 4), (.tmp 5), (.tmp 6)], (.seq (.reg [⟨(some 4), none, (.mv (.k .nilp))⟩, ⟨(some 5), none, (.mv (.k .nils))⟩, ⟨(some 6), none, (.mv (.k (.int .i64 0)))⟩]) (.seq 
  (.reg [⟨(some 13), none, (.mv (.t 0))⟩, ⟨(some 14), none, (.mv (.t 1))⟩, ⟨(some 15), none, (.call f_r06_Disk_Read [(.t 13), (.t 14)])⟩, ⟨(some 12), none, (.mv (.t 15))⟩, 
  ⟨(some 16), none, (.ext 0 (.t 12))⟩, ⟨(some 17), none, (.ext 1 (.t 12))⟩, ⟨(some 7), none, (.mv (.t 16))⟩, ⟨(some 8), none, (.mv (.t 17))⟩]) (.seq (.seq 
  (.reg [⟨(some 18), none, (.mv (.t 8))⟩, ⟨(some 19), none, (.eq true .i (.t 18) (.k (.int .i64 0)))⟩, ⟨(some 20), none, (.mv (.t 19))⟩, 
  ⟨(some 21), (some (20, true)), (.mv (.t 8))⟩, ⟨(some 22), (some (20, true)), (.eq true .i (.t 21) (.k (.int .i64 62)))⟩, 
  ⟨(some 23), none, (.pick (.t 20) (.t 22) (.k (.bool false)))⟩]) (.cond (.t 23) (.seq (.reg [⟨(some 24), none, (.mv (.t 8))⟩, ⟨(some 4), none, (.mv (.k .nilp))⟩, 
  ⟨(some 5), none, (.mv (.k .nils))⟩, ⟨(some 6), none, (.mv (.t 24))⟩]) .ret) .skip)) (.seq (.reg [⟨(some 26), none, (.mv (.t 7))⟩, ⟨(some 27), none, (.call f_r07_Scan [(.t 26)])⟩, 
  ⟨(some 25), none, (.mv (.t 27))⟩, ⟨(some 28), none, (.ext 0 (.t 25))⟩, ⟨(some 29), none, (.ext 1 (.t 25))⟩, ⟨(some 9), none, (.mv (.t 28))⟩, ⟨(some 10), none, (.mv (.t 29))⟩]) 
  (.seq (.seq (.reg [⟨(some 30), none, (.mv (.t 10))⟩, ⟨(some 31), none, (.mv (.t 7))⟩, ⟨(some 32), none, (.lens (.t 31))⟩, ⟨(some 33), none, (.bin .lss (.t 30) (.t 32))⟩]) 
  (.cond (.t 33) (.seq (.reg [⟨(some 34), none, (.mv (.t 0))⟩, ⟨(some 35), none, (.mv (.t 1))⟩, ⟨(some 36), none, (.mv (.t 10))⟩, 
  ⟨(some 37), none, (.call f_r06_Disk_Cut [(.t 34), (.t 35), (.t 36)])⟩, ⟨(some 11), none, (.mv (.t 37))⟩]) (.seq (.reg [⟨(some 38), none, (.mv (.t 11))⟩, 
  ⟨(some 39), none, (.eq true .i (.t 38) (.k (.int .i64 0)))⟩]) (.cond (.t 39) (.seq (.reg [⟨(some 40), none, (.mv (.t 11))⟩, ⟨(some 4), none, (.mv (.k .nilp))⟩, 
  ⟨(some 5), none, (.mv (.k .nils))⟩, ⟨(some 6), none, (.mv (.t 40))⟩]) .ret) .skip))) .skip)) (.seq (.reg [⟨(some 41), none, (.mv (.t 0))⟩, ⟨(some 42), none, (.mv (.t 1))⟩, 
  ⟨(some 43), none, (.mv (.t 10))⟩, ⟨(some 44), none, (.bld [.nilp, (.str (bts [])), (.int .i64 0), (.bool false)] [(0, (1, (.t 41))), (1, (1, (.t 42))), (2, (1, (.t 43)))])⟩, 
  ⟨(some 45), none, (.box (some 4) (.t 44))⟩, ⟨(some 46), none, (.mv (.t 9))⟩, ⟨(some 4), none, (.mv (.t 45))⟩, ⟨(some 5), none, (.mv (.t 46))⟩, 
  ⟨(some 6), none, (.mv (.k (.int .i64 0)))⟩]) .ret))))))⟩
theorem c_r07_Open : compF Tryd.prog ⟨none, none⟩ Tryd.f22 = some r_r07_Open := by kernel_rfl
/-- (*tenancy/tenancyref07.Log).Append -/
def r_r07_Log_Append : RF :=
  ⟨49, [(.tmp 4)], (.seq (.reg [⟨(some 4), none, (.mv (.k (.int .i64 0)))⟩]) (.seq (.seq (.reg [⟨(some 8), none, (.mv (.t 0))⟩, ⟨(some 9), none, (.call f_r07_Log_check [(.t 8)])⟩, 
  ⟨(some 5), none, (.mv (.t 9))⟩]) (.seq (.reg [⟨(some 10), none, (.mv (.t 5))⟩, ⟨(some 11), none, (.eq true .i (.t 10) (.k (.int .i64 0)))⟩]) (.cond (.t 11) (.seq 
  (.reg [⟨(some 12), none, (.mv (.t 5))⟩, ⟨(some 4), none, (.mv (.t 12))⟩]) .ret) .skip))) (.seq (.reg [⟨(some 14), none, (.mv (.t 1))⟩, 
  ⟨(some 15), none, (.call f_r07_Frame [(.t 14)])⟩, ⟨(some 13), none, (.mv (.t 15))⟩, ⟨(some 16), none, (.ext 0 (.t 13))⟩, ⟨(some 17), none, (.ext 1 (.t 13))⟩, 
  ⟨(some 6), none, (.mv (.t 16))⟩, ⟨(some 7), none, (.mv (.t 17))⟩]) (.seq (.seq (.reg [⟨(some 18), none, (.mv (.t 7))⟩, 
  ⟨(some 19), none, (.eq true .i (.t 18) (.k (.int .i64 0)))⟩]) (.cond (.t 19) (.seq (.reg [⟨(some 20), none, (.mv (.t 7))⟩, ⟨(some 4), none, (.mv (.t 20))⟩]) .ret) .skip)) (.seq 
  (.drw 0 [⟨⟨(some 21), none, (.mv (.t 0))⟩, .pure, [], []⟩, ⟨⟨(some 22), none, (.nck (.t 21))⟩, .pure, [], []⟩, ⟨⟨(some 23), none, (.off 0 (.t 22))⟩, .pure, [], []⟩, 
  ⟨⟨(some 24), none, (.ld none (.t 23))⟩, .ld, [], []⟩, ⟨⟨(some 25), none, (.mv (.t 0))⟩, .pure, [3], []⟩, ⟨⟨(some 26), none, (.nck (.t 25))⟩, .pure, [3], []⟩, 
  ⟨⟨(some 27), none, (.off 1 (.t 26))⟩, .pure, [3], []⟩, ⟨⟨(some 28), none, (.ld none (.t 27))⟩, .ld, [], []⟩, ⟨⟨(some 29), none, (.mv (.t 6))⟩, .pure, [3, 7], []⟩, 
  ⟨⟨(some 30), none, (.call f_r06_Disk_Append [(.t 24), (.t 28), (.t 29)])⟩, .eff, [], []⟩, ⟨⟨(some 7), none, (.mv (.t 30))⟩, .pure, [], []⟩]) (.seq (.seq 
  (.reg [⟨(some 31), none, (.mv (.t 7))⟩, ⟨(some 32), none, (.eq false .i (.t 31) (.k (.int .i64 60)))⟩]) (.cond (.t 32) (.reg [⟨(some 33), none, (.mv (.t 0))⟩, 
  ⟨(some 34), none, (.nck (.t 33))⟩, ⟨(some 35), none, (.off 3 (.t 34))⟩, ⟨none, none, (.st none (.t 35) (.k (.bool true)))⟩]) .skip)) (.seq (.seq 
  (.reg [⟨(some 36), none, (.mv (.t 7))⟩, ⟨(some 37), none, (.eq false .i (.t 36) (.k (.int .i64 0)))⟩]) (.cond (.t 37) (.reg [⟨(some 38), none, (.mv (.t 0))⟩, 
  ⟨(some 39), none, (.mv (.t 0))⟩, ⟨(some 40), none, (.nck (.t 39))⟩, ⟨(some 41), none, (.off 2 (.t 40))⟩, ⟨(some 42), none, (.ld none (.t 41))⟩, ⟨(some 43), none, (.mv (.t 6))⟩, 
  ⟨(some 44), none, (.lens (.t 43))⟩, ⟨(some 45), none, (.bin .add (.t 42) (.t 44))⟩, ⟨(some 46), none, (.nck (.t 38))⟩, ⟨(some 47), none, (.off 2 (.t 46))⟩, 
  ⟨none, none, (.st none (.t 47) (.t 45))⟩]) .skip)) (.seq (.reg [⟨(some 48), none, (.mv (.t 7))⟩, ⟨(some 4), none, (.mv (.t 48))⟩]) .ret))))))))⟩
theorem c_r07_Log_Append : compF Tryd.prog ⟨none, none⟩ Tryd.f23 = some r_r07_Log_Append := by kernel_rfl
/-- (*tenancy/tenancyref07.Log).Sync -/
def r_r07_Log_Sync : RF :=
  ⟨27, [(.tmp 2)], (.seq (.reg [⟨(some 2), none, (.mv (.k (.int .i64 0)))⟩]) (.seq (.seq (.reg [⟨(some 5), none, (.mv (.t 0))⟩, ⟨(some 6), none, (.call f_r07_Log_check [(.t 5)])⟩, 
  ⟨(some 3), none, (.mv (.t 6))⟩]) (.seq (.reg [⟨(some 7), none, (.mv (.t 3))⟩, ⟨(some 8), none, (.eq true .i (.t 7) (.k (.int .i64 0)))⟩]) (.cond (.t 8) (.seq 
  (.reg [⟨(some 9), none, (.mv (.t 3))⟩, ⟨(some 2), none, (.mv (.t 9))⟩]) .ret) .skip))) (.seq (.drw 0 [⟨⟨(some 10), none, (.mv (.t 0))⟩, .pure, [], []⟩, 
  ⟨⟨(some 11), none, (.nck (.t 10))⟩, .pure, [], []⟩, ⟨⟨(some 12), none, (.off 0 (.t 11))⟩, .pure, [], []⟩, ⟨⟨(some 13), none, (.ld none (.t 12))⟩, .ld, [], []⟩, 
  ⟨⟨(some 14), none, (.mv (.t 0))⟩, .pure, [3], []⟩, ⟨⟨(some 15), none, (.nck (.t 14))⟩, .pure, [3], []⟩, ⟨⟨(some 16), none, (.off 1 (.t 15))⟩, .pure, [3], []⟩, 
  ⟨⟨(some 17), none, (.ld none (.t 16))⟩, .ld, [], []⟩, ⟨⟨(some 18), none, (.call f_r06_Disk_Sync [(.t 13), (.t 17)])⟩, .eff, [], []⟩, 
  ⟨⟨(some 4), none, (.mv (.t 18))⟩, .pure, [], []⟩]) (.seq (.seq (.reg [⟨(some 19), none, (.mv (.t 4))⟩, ⟨(some 20), none, (.eq false .i (.t 19) (.k (.int .i64 60)))⟩]) 
  (.cond (.t 20) (.reg [⟨(some 21), none, (.mv (.t 0))⟩, ⟨(some 22), none, (.nck (.t 21))⟩, ⟨(some 23), none, (.off 3 (.t 22))⟩, 
  ⟨none, none, (.st none (.t 23) (.k (.bool true)))⟩]) .skip)) (.seq (.seq (.reg [⟨(some 24), none, (.mv (.t 4))⟩, ⟨(some 25), none, (.eq false .i (.t 24) (.k (.int .i64 62)))⟩]) 
  (.cond (.t 25) (.seq (.reg [⟨(some 2), none, (.mv (.k (.int .i64 0)))⟩]) .ret) .skip)) (.seq (.reg [⟨(some 26), none, (.mv (.t 4))⟩, ⟨(some 2), none, (.mv (.t 26))⟩]) .ret))))))⟩
theorem c_r07_Log_Sync : compF Tryd.prog ⟨none, none⟩ Tryd.f24 = some r_r07_Log_Sync := by kernel_rfl
/-- (*tenancy/tenancyref06.Disk).Arm -/
def r_r06_Disk_Arm : RF :=
  ⟨27, [], (.seq (.seq (.reg [⟨(some 6), none, (.mv (.t 0))⟩, ⟨(some 7), none, (.eq false .p (.t 6) (.k .nilp))⟩, ⟨(some 8), none, (.mv (.t 7))⟩, 
  ⟨(some 9), (some (8, false)), (.mv (.t 0))⟩, ⟨(some 10), (some (8, false)), (.nck (.t 9))⟩, ⟨(some 11), (some (8, false)), (.off 1 (.t 10))⟩, 
  ⟨(some 12), (some (8, false)), (.ld none (.t 11))⟩, ⟨(some 13), none, (.pick (.t 8) (.k (.bool true)) (.t 12))⟩]) (.cond (.t 13) .ret .skip)) (.seq 
  (.reg [⟨(some 14), none, (.mv (.t 0))⟩, ⟨(some 15), none, (.mv (.t 1))⟩, ⟨(some 16), none, (.nck (.t 14))⟩, ⟨(some 17), none, (.off 2 (.t 16))⟩, 
  ⟨none, none, (.st none (.t 17) (.t 15))⟩]) (.seq (.seq (.reg [⟨(some 18), none, (.mv (.t 1))⟩, ⟨(some 19), none, (.bin .lss (.t 18) (.k (.int .i64 0)))⟩]) (.cond (.t 19) 
  (.reg [⟨(some 20), none, (.mv (.t 0))⟩, ⟨(some 21), none, (.nck (.t 20))⟩, ⟨(some 22), none, (.off 2 (.t 21))⟩, ⟨none, none, (.st none (.t 22) (.k (.int .i64 (-1))))⟩]) .skip)) 
  (.reg [⟨(some 23), none, (.mv (.t 0))⟩, ⟨(some 24), none, (.mv (.t 2))⟩, ⟨(some 25), none, (.nck (.t 23))⟩, ⟨(some 26), none, (.off 3 (.t 25))⟩, 
  ⟨none, none, (.st none (.t 26) (.t 24))⟩]))))⟩
theorem c_r06_Disk_Arm : compF Tryd.prog ⟨none, none⟩ Tryd.f25 = some r_r06_Disk_Arm := by kernel_rfl
/-- (*tenancy/tenancyref06.Disk).Off -/
def r_r06_Disk_Off : RF :=
  ⟨16, [], (.seq (.reg [⟨(some 4), none, (.mv (.t 0))⟩, ⟨(some 5), none, (.eq true .p (.t 4) (.k .nilp))⟩, ⟨(some 6), none, (.mv (.t 5))⟩, 
  ⟨(some 7), (some (6, true)), (.mv (.t 0))⟩, ⟨(some 8), (some (6, true)), (.nck (.t 7))⟩, ⟨(some 9), (some (6, true)), (.off 1 (.t 8))⟩, 
  ⟨(some 10), (some (6, true)), (.ld none (.t 9))⟩, ⟨(some 11), (some (6, true)), (.un .not (.t 10))⟩, ⟨(some 12), none, (.pick (.t 6) (.t 11) (.k (.bool false)))⟩]) (.cond (.t 12) 
  (.reg [⟨(some 13), none, (.mv (.t 0))⟩, ⟨(some 14), none, (.mv (.t 1))⟩, ⟨(some 15), none, (.call f_r06_Disk_goes [(.t 13), (.t 14)])⟩]) .skip))⟩
theorem c_r06_Disk_Off : compF Tryd.prog ⟨none, none⟩ Tryd.f26 = some r_r06_Disk_Off := by kernel_rfl
/-- (*tenancy/tenancyref06.Disk).On -/
def r_r06_Disk_On : RF :=
  ⟨10, [], (.seq (.reg [⟨(some 2), none, (.mv (.t 0))⟩, ⟨(some 3), none, (.eq true .p (.t 2) (.k .nilp))⟩]) (.cond (.t 3) (.seq (.reg [⟨(some 4), none, (.mv (.t 0))⟩, 
  ⟨(some 5), none, (.nck (.t 4))⟩, ⟨(some 6), none, (.off 1 (.t 5))⟩, ⟨none, none, (.st none (.t 6) (.k (.bool false)))⟩]) (.reg [⟨(some 7), none, (.mv (.t 0))⟩, 
  ⟨(some 8), none, (.nck (.t 7))⟩, ⟨(some 9), none, (.off 2 (.t 8))⟩, ⟨none, none, (.st none (.t 9) (.k (.int .i64 (-1))))⟩])) .skip))⟩
theorem c_r06_Disk_On : compF Tryd.prog ⟨none, none⟩ Tryd.f27 = some r_r06_Disk_On := by kernel_rfl
/-- (*tenancy/files.Disk).Append -/
def r_files_Disk_Append : RF :=
  ⟨57, [(.tmp 6)], (.seq (.reg [⟨(some 6), none, (.mv (.k (.int .i64 0)))⟩]) (.seq (.reg [⟨(some 10), none, (.mv (.t 0))⟩, ⟨(some 11), none, (.mv (.t 1))⟩, 
  ⟨(some 12), none, (.call f_files_Disk_find [(.t 10), (.t 11)])⟩, ⟨(some 9), none, (.mv (.t 12))⟩, ⟨(some 13), none, (.ext 0 (.t 9))⟩, ⟨(some 14), none, (.ext 1 (.t 9))⟩, 
  ⟨(some 7), none, (.mv (.t 13))⟩, ⟨(some 8), none, (.mv (.t 14))⟩]) (.seq (.seq (.reg [⟨(some 15), none, (.mv (.t 8))⟩, ⟨(some 16), none, (.eq true .i (.t 15) (.k (.int .i64 0)))⟩, 
  ⟨(some 17), none, (.mv (.t 16))⟩, ⟨(some 18), (some (17, true)), (.mv (.t 8))⟩, ⟨(some 19), (some (17, true)), (.eq true .i (.t 18) (.k (.int .i64 62)))⟩, 
  ⟨(some 20), none, (.pick (.t 17) (.t 19) (.k (.bool false)))⟩]) (.cond (.t 20) (.seq (.reg [⟨(some 21), none, (.mv (.t 8))⟩, ⟨(some 6), none, (.mv (.t 21))⟩]) .ret) .skip)) (.seq 
  (.seq (.reg [⟨(some 22), none, (.mv (.t 7))⟩, ⟨(some 23), none, (.eq false .p (.t 22) (.k .nilp))⟩]) (.cond (.t 23) (.seq (.seq (.reg [⟨(some 24), none, (.mv (.t 0))⟩, 
  ⟨(some 25), none, (.nck (.t 24))⟩, ⟨(some 26), none, (.off 0 (.t 25))⟩, ⟨(some 27), none, (.ld none (.t 26))⟩, ⟨(some 28), none, (.xt .lenm [(.t 27)])⟩, 
  ⟨(some 29), none, (.bin .geq (.t 28) (.k (.int .i64 16)))⟩]) (.cond (.t 29) (.seq (.reg [⟨(some 6), none, (.mv (.k (.int .i64 63)))⟩]) .ret) .skip)) 
  (.reg [⟨(some 30), none, (.bld [(.str (bts [])), (.int .i64 0)] [])⟩, ⟨(some 31), none, (.box (some 2) (.t 30))⟩, ⟨(some 7), none, (.mv (.t 31))⟩])) .skip)) (.seq (.seq 
  (.reg [⟨(some 32), none, (.mv (.t 2))⟩, ⟨(some 33), none, (.lens (.t 32))⟩, ⟨(some 34), none, (.mv (.t 7))⟩, ⟨(some 35), none, (.nck (.t 34))⟩, 
  ⟨(some 36), none, (.off 0 (.t 35))⟩, ⟨(some 37), none, (.ld none (.t 36))⟩, ⟨(some 38), none, (.lens (.t 37))⟩, ⟨(some 39), none, (.bin .sub (.k (.int .i64 1048576)) (.t 38))⟩, 
  ⟨(some 40), none, (.bin .gtr (.t 33) (.t 39))⟩]) (.cond (.t 40) (.seq (.reg [⟨(some 6), none, (.mv (.k (.int .i64 63)))⟩]) .ret) .skip)) (.seq 
  (.reg [⟨(some 41), none, (.mv (.t 7))⟩, ⟨(some 42), none, (.nck (.t 41))⟩, ⟨(some 43), none, (.off 0 (.t 42))⟩, ⟨(some 44), none, (.ld none (.t 43))⟩, 
  ⟨(some 45), none, (.mv (.t 2))⟩, ⟨(some 46), none, (.bin .add (.t 44) (.t 45))⟩, ⟨(some 47), none, (.nck (.t 41))⟩, ⟨(some 48), none, (.off 0 (.t 47))⟩, 
  ⟨none, none, (.st none (.t 48) (.t 46))⟩]) (.seq (.reg [⟨(some 49), none, (.mv (.t 0))⟩, ⟨(some 50), none, (.nck (.t 49))⟩, ⟨(some 51), none, (.off 0 (.t 50))⟩, 
  ⟨(some 52), none, (.ld none (.t 51))⟩, ⟨(some 53), none, (.mv (.t 1))⟩, ⟨(some 54), none, (.mv (.t 7))⟩, ⟨none, none, (.xt (.mup .s) [(.t 52), (.t 53), (.t 54)])⟩]) (.seq 
  (.reg [⟨(some 55), none, (.mv (.t 0))⟩, ⟨(some 56), none, (.call f_files_Disk_spend [(.t 55)])⟩, ⟨(some 6), none, (.mv (.t 56))⟩]) .ret))))))))⟩
theorem c_files_Disk_Append : compF Tryd.prog ⟨none, none⟩ Tryd.f28 = some r_files_Disk_Append := by kernel_rfl
/-- (*tenancy/tenancyref06.Disk).Append -/
def r_r06_Disk_Append : RF :=
  ⟨81, [(.tmp 6)], (.seq (.reg [⟨(some 6), none, (.mv (.k (.int .i64 0)))⟩]) (.seq (.seq (.reg [⟨(some 9), none, (.mv (.t 0))⟩, ⟨(some 10), none, (.mv (.t 1))⟩, 
  ⟨(some 11), none, (.call f_r06_Disk_check [(.t 9), (.t 10)])⟩, ⟨(some 7), none, (.mv (.t 11))⟩]) (.seq (.reg [⟨(some 12), none, (.mv (.t 7))⟩, 
  ⟨(some 13), none, (.eq true .i (.t 12) (.k (.int .i64 0)))⟩]) (.cond (.t 13) (.seq (.reg [⟨(some 14), none, (.mv (.t 7))⟩, ⟨(some 6), none, (.mv (.t 14))⟩]) .ret) .skip))) (.seq 
  (.reg [⟨(some 15), none, (.mv (.t 0))⟩, ⟨(some 16), none, (.mv (.t 1))⟩, ⟨(some 17), none, (.call f_r06_Disk_place [(.t 15), (.t 16)])⟩, ⟨(some 8), none, (.mv (.t 17))⟩]) (.seq 
  (.seq (.reg [⟨(some 18), none, (.mv (.t 8))⟩, ⟨(some 19), none, (.bin .lss (.t 18) (.k (.int .i64 0)))⟩, ⟨(some 20), none, (.mv (.t 19))⟩, 
  ⟨(some 21), (some (20, true)), (.mv (.t 0))⟩, ⟨(some 22), (some (20, true)), (.nck (.t 21))⟩, ⟨(some 23), (some (20, true)), (.off 0 (.t 22))⟩, 
  ⟨(some 24), (some (20, true)), (.ld none (.t 23))⟩, ⟨(some 25), (some (20, true)), (.lenl (.t 24))⟩, ⟨(some 26), (some (20, true)), (.bin .geq (.t 25) (.k (.int .i64 16)))⟩, 
  ⟨(some 27), (some (20, true)), (.mv (.t 26))⟩, ⟨(some 28), (some (27, false)), (.mv (.t 2))⟩, ⟨(some 29), (some (27, false)), (.lens (.t 28))⟩, 
  ⟨(some 30), (some (27, false)), (.bin .gtr (.t 29) (.k (.int .i64 1048576)))⟩, ⟨(some 31), (some (20, true)), (.pick (.t 27) (.k (.bool true)) (.t 30))⟩, 
  ⟨(some 32), none, (.pick (.t 20) (.t 31) (.k (.bool false)))⟩, ⟨(some 33), none, (.mv (.t 32))⟩, ⟨(some 34), (some (33, false)), (.mv (.t 8))⟩, 
  ⟨(some 35), (some (33, false)), (.bin .geq (.t 34) (.k (.int .i64 0)))⟩, ⟨(some 36), (some (33, false)), (.mv (.t 35))⟩, ⟨(some 37), (some (36, true)), (.mv (.t 2))⟩, 
  ⟨(some 38), (some (36, true)), (.lens (.t 37))⟩, ⟨(some 39), (some (36, true)), (.mv (.t 0))⟩, ⟨(some 40), (some (36, true)), (.nck (.t 39))⟩, 
  ⟨(some 41), (some (36, true)), (.off 0 (.t 40))⟩, ⟨(some 42), (some (36, true)), (.ld none (.t 41))⟩, ⟨(some 43), (some (36, true)), (.mv (.t 8))⟩, 
  ⟨(some 44), (some (36, true)), (.ixa 3 (.t 42) (.t 43))⟩, ⟨(some 45), (some (36, true)), (.off 1 (.t 44))⟩, ⟨(some 46), (some (36, true)), (.ld none (.t 45))⟩, 
  ⟨(some 47), (some (36, true)), (.lens (.t 46))⟩, ⟨(some 48), (some (36, true)), (.bin .sub (.k (.int .i64 1048576)) (.t 47))⟩, 
  ⟨(some 49), (some (36, true)), (.bin .gtr (.t 38) (.t 48))⟩, ⟨(some 50), (some (33, false)), (.pick (.t 36) (.t 49) (.k (.bool false)))⟩, 
  ⟨(some 51), none, (.pick (.t 33) (.k (.bool true)) (.t 50))⟩]) (.cond (.t 51) (.seq (.reg [⟨(some 6), none, (.mv (.k (.int .i64 63)))⟩]) .ret) .skip)) (.seq (.seq 
  (.reg [⟨(some 52), none, (.mv (.t 8))⟩, ⟨(some 53), none, (.bin .lss (.t 52) (.k (.int .i64 0)))⟩]) (.cond (.t 53) (.seq (.reg [⟨(some 54), none, (.mv (.t 0))⟩, 
  ⟨(some 55), none, (.mv (.t 1))⟩, ⟨(some 56), none, (.bld [(.str (bts [])), (.str (bts [])), (.int .i64 0)] [(0, (1, (.t 55)))])⟩, 
  ⟨(some 57), none, (.call f_r06_Disk_put [(.t 54), (.t 56)])⟩]) (.reg [⟨(some 58), none, (.mv (.t 0))⟩, ⟨(some 59), none, (.mv (.t 1))⟩, 
  ⟨(some 60), none, (.call f_r06_Disk_place [(.t 58), (.t 59)])⟩, ⟨(some 8), none, (.mv (.t 60))⟩])) .skip)) (.seq (.drw 0 [⟨⟨(some 61), none, (.mv (.t 0))⟩, .pure, [], []⟩, 
  ⟨⟨(some 62), none, (.nck (.t 61))⟩, .pure, [], []⟩, ⟨⟨(some 63), none, (.off 0 (.t 62))⟩, .pure, [], []⟩, ⟨⟨(some 64), none, (.ld none (.t 63))⟩, .ld, [], []⟩, 
  ⟨⟨(some 65), none, (.mv (.t 8))⟩, .pure, [3], []⟩, ⟨⟨(some 66), none, (.mv (.t 0))⟩, .pure, [3], []⟩, ⟨⟨(some 67), none, (.nck (.t 66))⟩, .pure, [3], []⟩, 
  ⟨⟨(some 68), none, (.off 0 (.t 67))⟩, .pure, [3], []⟩, ⟨⟨(some 69), none, (.ld none (.t 68))⟩, .ld, [], []⟩, ⟨⟨(some 70), none, (.mv (.t 8))⟩, .pure, [3, 8], []⟩, 
  ⟨⟨(some 71), none, (.ixa 3 (.t 69) (.t 70))⟩, .pure, [3], []⟩, ⟨⟨(some 72), none, (.off 1 (.t 71))⟩, .pure, [3], []⟩, ⟨⟨(some 73), none, (.ld none (.t 72))⟩, .ld, [], []⟩, 
  ⟨⟨(some 74), none, (.mv (.t 2))⟩, .pure, [3, 8, 12], []⟩, ⟨⟨(some 75), none, (.bin .add (.t 73) (.t 74))⟩, .pure, [3], []⟩, 
  ⟨⟨(some 76), none, (.ixa 3 (.t 64) (.t 65))⟩, .pure, [], []⟩, ⟨⟨(some 77), none, (.off 1 (.t 76))⟩, .pure, [], []⟩, ⟨⟨none, none, (.st none (.t 77) (.t 75))⟩, .eff, [], []⟩]) 
  (.seq (.seq (.reg [⟨(some 78), none, (.mv (.t 0))⟩, ⟨(some 79), none, (.call f_r06_Disk_power [(.t 78)])⟩, ⟨(some 80), none, (.un .not (.t 79))⟩]) (.cond (.t 80) (.seq 
  (.reg [⟨(some 6), none, (.mv (.k (.int .i64 60)))⟩]) .ret) .skip)) (.seq (.reg [⟨(some 6), none, (.mv (.k (.int .i64 0)))⟩]) .ret))))))))⟩
theorem c_r06_Disk_Append : compF Tryd.prog ⟨none, none⟩ Tryd.f29 = some r_r06_Disk_Append := by kernel_rfl
/-- (*tenancy/wal.Log).Size -/
def r_wal_Log_Size : RF :=
  ⟨9, [(.tmp 2)], (.seq (.reg [⟨(some 2), none, (.mv (.k (.int .i64 0)))⟩]) (.seq (.seq (.reg [⟨(some 3), none, (.mv (.t 0))⟩, ⟨(some 4), none, (.eq false .p (.t 3) (.k .nilp))⟩]) 
  (.cond (.t 4) (.seq (.reg [⟨(some 2), none, (.mv (.k (.int .i64 0)))⟩]) .ret) .skip)) (.seq (.reg [⟨(some 5), none, (.mv (.t 0))⟩, ⟨(some 6), none, (.nck (.t 5))⟩, 
  ⟨(some 7), none, (.off 2 (.t 6))⟩, ⟨(some 8), none, (.ld none (.t 7))⟩, ⟨(some 2), none, (.mv (.t 8))⟩]) .ret)))⟩
theorem c_wal_Log_Size : compF Tryd.prog ⟨none, none⟩ Tryd.f30 = some r_wal_Log_Size := by kernel_rfl
/-- (*tenancy/tenancyref07.Log).Size -/
def r_r07_Log_Size : RF :=
  ⟨9, [(.tmp 2)], (.seq (.reg [⟨(some 2), none, (.mv (.k (.int .i64 0)))⟩]) (.seq (.seq (.reg [⟨(some 3), none, (.mv (.t 0))⟩, ⟨(some 4), none, (.eq false .p (.t 3) (.k .nilp))⟩]) 
  (.cond (.t 4) (.seq (.reg [⟨(some 2), none, (.mv (.k (.int .i64 0)))⟩]) .ret) .skip)) (.seq (.reg [⟨(some 5), none, (.mv (.t 0))⟩, ⟨(some 6), none, (.nck (.t 5))⟩, 
  ⟨(some 7), none, (.off 2 (.t 6))⟩, ⟨(some 8), none, (.ld none (.t 7))⟩, ⟨(some 2), none, (.mv (.t 8))⟩]) .ret)))⟩
theorem c_r07_Log_Size : compF Tryd.prog ⟨none, none⟩ Tryd.f31 = some r_r07_Log_Size := by kernel_rfl
/-- (*tenancy/files.Disk).Steps -/
def r_files_Disk_Steps : RF :=
  ⟨9, [(.tmp 2)], (.seq (.reg [⟨(some 2), none, (.mv (.k (.int .i64 0)))⟩]) (.seq (.seq (.reg [⟨(some 3), none, (.mv (.t 0))⟩, ⟨(some 4), none, (.eq false .p (.t 3) (.k .nilp))⟩]) 
  (.cond (.t 4) (.seq (.reg [⟨(some 2), none, (.mv (.k (.int .i64 0)))⟩]) .ret) .skip)) (.seq (.reg [⟨(some 5), none, (.mv (.t 0))⟩, ⟨(some 6), none, (.nck (.t 5))⟩, 
  ⟨(some 7), none, (.off 5 (.t 6))⟩, ⟨(some 8), none, (.ld none (.t 7))⟩, ⟨(some 2), none, (.mv (.t 8))⟩]) .ret)))⟩
theorem c_files_Disk_Steps : compF Tryd.prog ⟨none, none⟩ Tryd.f32 = some r_files_Disk_Steps := by kernel_rfl
/-- (*tenancy/tenancyref06.Disk).Steps -/
def r_r06_Disk_Steps : RF :=
  ⟨9, [(.tmp 2)], (.seq (.reg [⟨(some 2), none, (.mv (.k (.int .i64 0)))⟩]) (.seq (.seq (.reg [⟨(some 3), none, (.mv (.t 0))⟩, ⟨(some 4), none, (.eq false .p (.t 3) (.k .nilp))⟩]) 
  (.cond (.t 4) (.seq (.reg [⟨(some 2), none, (.mv (.k (.int .i64 0)))⟩]) .ret) .skip)) (.seq (.reg [⟨(some 5), none, (.mv (.t 0))⟩, ⟨(some 6), none, (.nck (.t 5))⟩, 
  ⟨(some 7), none, (.off 4 (.t 6))⟩, ⟨(some 8), none, (.ld none (.t 7))⟩, ⟨(some 2), none, (.mv (.t 8))⟩]) .ret)))⟩
theorem c_r06_Disk_Steps : compF Tryd.prog ⟨none, none⟩ Tryd.f33 = some r_r06_Disk_Steps := by kernel_rfl
/-- (*tenancy/tenancyref06.Disk).Down -/
def r_r06_Disk_Down : RF :=
  ⟨11, [(.tmp 2)], (.seq (.reg [⟨(some 2), none, (.mv (.k (.bool false)))⟩]) (.seq (.reg [⟨(some 3), none, (.mv (.t 0))⟩, ⟨(some 4), none, (.eq true .p (.t 3) (.k .nilp))⟩, 
  ⟨(some 5), none, (.mv (.t 4))⟩, ⟨(some 6), (some (5, true)), (.mv (.t 0))⟩, ⟨(some 7), (some (5, true)), (.nck (.t 6))⟩, ⟨(some 8), (some (5, true)), (.off 1 (.t 7))⟩, 
  ⟨(some 9), (some (5, true)), (.ld none (.t 8))⟩, ⟨(some 10), none, (.pick (.t 5) (.t 9) (.k (.bool false)))⟩, ⟨(some 2), none, (.mv (.t 10))⟩]) .ret))⟩
theorem c_r06_Disk_Down : compF Tryd.prog ⟨none, none⟩ Tryd.f34 = some r_r06_Disk_Down := by kernel_rfl
/-- (*tenancy/files.Disk).Read -/
def r_files_Disk_Read : RF :=
  ⟨21, [(.tmp 4), (.tmp 5)], (.seq (.reg [⟨(some 4), none, (.mv (.k (.str (bts []))))⟩, ⟨(some 5), none, (.mv (.k (.int .i64 0)))⟩]) (.seq (.reg [⟨(some 9), none, (.mv (.t 0))⟩, 
  ⟨(some 10), none, (.mv (.t 1))⟩, ⟨(some 11), none, (.call f_files_Disk_find [(.t 9), (.t 10)])⟩, ⟨(some 8), none, (.mv (.t 11))⟩, ⟨(some 12), none, (.ext 0 (.t 8))⟩, 
  ⟨(some 13), none, (.ext 1 (.t 8))⟩, ⟨(some 6), none, (.mv (.t 12))⟩, ⟨(some 7), none, (.mv (.t 13))⟩]) (.seq (.seq (.reg [⟨(some 14), none, (.mv (.t 7))⟩, 
  ⟨(some 15), none, (.eq true .i (.t 14) (.k (.int .i64 0)))⟩]) (.cond (.t 15) (.seq (.reg [⟨(some 16), none, (.mv (.t 7))⟩, ⟨(some 4), none, (.mv (.k (.str (bts []))))⟩, 
  ⟨(some 5), none, (.mv (.t 16))⟩]) .ret) .skip)) (.seq (.reg [⟨(some 17), none, (.mv (.t 6))⟩, ⟨(some 18), none, (.nck (.t 17))⟩, ⟨(some 19), none, (.off 0 (.t 18))⟩, 
  ⟨(some 20), none, (.ld none (.t 19))⟩, ⟨(some 4), none, (.mv (.t 20))⟩, ⟨(some 5), none, (.mv (.k (.int .i64 0)))⟩]) .ret))))⟩
theorem c_files_Disk_Read : compF Tryd.prog ⟨none, none⟩ Tryd.f35 = some r_files_Disk_Read := by kernel_rfl
/-- (*tenancy/tenancyref06.Disk).Read -/
def r_r06_Disk_Read : RF :=
  ⟨27, [(.tmp 4), (.tmp 5)], (.seq (.reg [⟨(some 4), none, (.mv (.k (.str (bts []))))⟩, ⟨(some 5), none, (.mv (.k (.int .i64 0)))⟩]) (.seq (.seq 
  (.reg [⟨(some 8), none, (.mv (.t 0))⟩, ⟨(some 9), none, (.mv (.t 1))⟩, ⟨(some 10), none, (.call f_r06_Disk_check [(.t 8), (.t 9)])⟩, ⟨(some 6), none, (.mv (.t 10))⟩]) (.seq 
  (.reg [⟨(some 11), none, (.mv (.t 6))⟩, ⟨(some 12), none, (.eq true .i (.t 11) (.k (.int .i64 0)))⟩]) (.cond (.t 12) (.seq (.reg [⟨(some 13), none, (.mv (.t 6))⟩, 
  ⟨(some 4), none, (.mv (.k (.str (bts []))))⟩, ⟨(some 5), none, (.mv (.t 13))⟩]) .ret) .skip))) (.seq (.reg [⟨(some 14), none, (.mv (.t 0))⟩, ⟨(some 15), none, (.mv (.t 1))⟩, 
  ⟨(some 16), none, (.call f_r06_Disk_place [(.t 14), (.t 15)])⟩, ⟨(some 7), none, (.mv (.t 16))⟩]) (.seq (.seq (.reg [⟨(some 17), none, (.mv (.t 7))⟩, 
  ⟨(some 18), none, (.bin .lss (.t 17) (.k (.int .i64 0)))⟩]) (.cond (.t 18) (.seq (.reg [⟨(some 4), none, (.mv (.k (.str (bts []))))⟩, 
  ⟨(some 5), none, (.mv (.k (.int .i64 62)))⟩]) .ret) .skip)) (.seq (.reg [⟨(some 19), none, (.mv (.t 0))⟩, ⟨(some 20), none, (.nck (.t 19))⟩, ⟨(some 21), none, (.off 0 (.t 20))⟩, 
  ⟨(some 22), none, (.ld none (.t 21))⟩, ⟨(some 23), none, (.mv (.t 7))⟩, ⟨(some 24), none, (.ixa 3 (.t 22) (.t 23))⟩, ⟨(some 25), none, (.off 1 (.t 24))⟩, 
  ⟨(some 26), none, (.ld none (.t 25))⟩, ⟨(some 4), none, (.mv (.t 26))⟩, ⟨(some 5), none, (.mv (.k (.int .i64 0)))⟩]) .ret)))))⟩
theorem c_r06_Disk_Read : compF Tryd.prog ⟨none, none⟩ Tryd.f36 = some r_r06_Disk_Read := by kernel_rfl
/-- tenancy/wal.isRecord -/
def r_wal_isRecord : RF :=
  ⟨9, [(.tmp 2)], (.seq (.reg [⟨(some 2), none, (.mv (.k (.bool false)))⟩]) (.seq (.reg [⟨(some 3), none, (.mv (.t 0))⟩, ⟨(some 4), none, (.bin .geq (.t 3) (.k (.int .i64 1)))⟩, 
  ⟨(some 5), none, (.mv (.t 4))⟩, ⟨(some 6), (some (5, true)), (.mv (.t 0))⟩, ⟨(some 7), (some (5, true)), (.bin .leq (.t 6) (.k (.int .i64 65536)))⟩, 
  ⟨(some 8), none, (.pick (.t 5) (.t 7) (.k (.bool false)))⟩, ⟨(some 2), none, (.mv (.t 8))⟩]) .ret))⟩
theorem c_wal_isRecord : compF Tryd.prog ⟨none, none⟩ Tryd.f37 = some r_wal_isRecord := by kernel_rfl
/-- tenancy/octet.Put32 -/
def r_octet_Put32 : RF :=
  ⟨5, [(.tmp 2)], (.seq (.reg [⟨(some 2), none, (.mv (.k (.str (bts []))))⟩]) (.seq (.reg [⟨(some 3), none, (.mv (.t 0))⟩, 
  ⟨(some 4), none, (.call f_octet_put_uint32 [(.t 3), (.k (.int .i64 4))])⟩, ⟨(some 2), none, (.mv (.t 4))⟩]) .ret))⟩
theorem c_octet_Put32 : compF Tryd.prog ⟨none, none⟩ Tryd.f38 = some r_octet_Put32 := by kernel_rfl
/-- tenancy/digest.CRC -/
def r_digest_CRC : RF :=
  ⟨30, [(.tmp 2)], (.seq (.reg [⟨(some 2), none, (.mv (.k (.int .u32 0)))⟩]) (.seq (.reg [⟨(some 3), none, (.mv (.k (.int .u32 4294967295)))⟩]) (.seq (.seq 
  (.reg [⟨(some 6), none, (.mv (.t 0))⟩, ⟨(some 7), none, (.xt .s2b [(.t 6)])⟩, ⟨(some 8), none, (.lenl (.t 7))⟩, ⟨(some 9), none, (.mv (.k (.int .i64 0)))⟩]) (.block 0 (.loop (.seq 
  (.reg [⟨(some 10), none, (.bin .lss (.t 9) (.t 8))⟩]) (.seq (.cond (.t 10) .skip (.exit 0)) (.seq (.block 1 (.seq (.reg [⟨(some 11), none, (.ixa 1 (.t 7) (.t 9))⟩, 
  ⟨(some 12), none, (.ld none (.t 11))⟩, ⟨(some 5), none, (.mv (.t 12))⟩]) (.seq (.reg [⟨(some 13), none, (.mv (.t 3))⟩, ⟨(some 14), none, (.mv (.t 5))⟩, 
  ⟨(some 15), none, (.cvi .u32 (.t 14))⟩, ⟨(some 16), none, (.bin .xor (.t 13) (.t 15))⟩, ⟨(some 3), none, (.mv (.t 16))⟩]) (.seq 
  (.reg [⟨(some 17), none, (.mv (.k (.int .i64 0)))⟩]) (.block 2 (.loop (.seq (.reg [⟨(some 18), none, (.bin .lss (.t 17) (.k (.int .i64 8)))⟩]) (.seq 
  (.cond (.t 18) .skip (.exit 2)) (.seq (.block 3 (.reg [⟨(some 19), none, (.mv (.t 3))⟩, ⟨(some 20), none, (.bin .shr (.t 19) (.k (.int .u64 1)))⟩, ⟨(some 21), none, (.mv (.t 3))⟩, 
  ⟨(some 22), none, (.bin .and (.t 21) (.k (.int .u32 1)))⟩, ⟨(some 23), none, (.un .neg (.t 22))⟩, ⟨(some 24), none, (.bin .and (.k (.int .u32 3988292384)) (.t 23))⟩, 
  ⟨(some 25), none, (.bin .xor (.t 20) (.t 24))⟩, ⟨(some 3), none, (.mv (.t 25))⟩])) (.reg [⟨(some 26), none, (.bin .add (.t 17) (.k (.int .i64 1)))⟩, 
  ⟨(some 17), none, (.mv (.t 26))⟩])))))))))) (.reg [⟨(some 27), none, (.bin .add (.t 9) (.k (.int .i64 1)))⟩, ⟨(some 9), none, (.mv (.t 27))⟩]))))))) (.seq 
  (.reg [⟨(some 28), none, (.mv (.t 3))⟩, ⟨(some 29), none, (.un .xor (.t 28))⟩, ⟨(some 2), none, (.mv (.t 29))⟩]) .ret))))⟩
theorem c_digest_CRC : compF Tryd.prog ⟨none, none⟩ Tryd.f39 = some r_digest_CRC := by kernel_rfl
/-- tenancy/tenancyref04.Put32 -/
def r_r04_Put32 : RF :=
  ⟨6, [(.tmp 2)], (.seq (.reg [⟨(some 2), none, (.mv (.k (.str (bts []))))⟩]) (.seq (.reg [⟨(some 3), none, (.mv (.t 0))⟩, ⟨(some 4), none, (.cvi .u64 (.t 3))⟩, 
  ⟨(some 5), none, (.call f_r04_put [(.t 4), (.k (.int .i64 4))])⟩, ⟨(some 2), none, (.mv (.t 5))⟩]) .ret))⟩
theorem c_r04_Put32 : compF Tryd.prog ⟨none, none⟩ Tryd.f40 = some r_r04_Put32 := by kernel_rfl
/-- tenancy/tenancyref05.CRC -/
def r_r05_CRC : RF :=
  ⟨33, [(.tmp 2)], (.seq (.reg [⟨(some 2), none, (.mv (.k (.int .u32 0)))⟩]) (.seq (.reg [⟨(some 3), none, (.mv (.k (.int .u32 4294967295)))⟩]) (.seq (.seq 
  (.reg [⟨(some 4), none, (.mv (.k (.int .i64 0)))⟩]) (.block 0 (.loop (.seq (.seq (.reg [⟨(some 7), none, (.mv (.t 4))⟩, ⟨(some 8), none, (.mv (.t 0))⟩, 
  ⟨(some 9), none, (.lens (.t 8))⟩, ⟨(some 10), none, (.bin .lss (.t 7) (.t 9))⟩]) (.cond (.t 10) .skip (.exit 0))) (.seq (.block 1 (.seq (.reg [⟨(some 13), none, (.mv (.t 3))⟩, 
  ⟨(some 14), none, (.mv (.t 0))⟩, ⟨(some 15), none, (.mv (.t 4))⟩, ⟨(some 16), none, (.ixs (.t 14) (.t 15))⟩, ⟨(some 17), none, (.cvi .u32 (.t 16))⟩, 
  ⟨(some 18), none, (.bin .xor (.t 13) (.t 17))⟩, ⟨(some 3), none, (.mv (.t 18))⟩]) (.seq (.reg [⟨(some 5), none, (.mv (.k (.int .i64 0)))⟩]) (.block 2 (.loop (.seq (.seq 
  (.reg [⟨(some 19), none, (.mv (.t 5))⟩, ⟨(some 20), none, (.bin .lss (.t 19) (.k (.int .i64 8)))⟩]) (.cond (.t 20) .skip (.exit 2))) (.seq (.block 3 (.seq 
  (.reg [⟨(some 23), none, (.mv (.t 3))⟩, ⟨(some 24), none, (.bin .rem (.t 23) (.k (.int .u32 2)))⟩, ⟨(some 6), none, (.mv (.t 24))⟩]) (.seq (.reg [⟨(some 25), none, (.mv (.t 3))⟩, 
  ⟨(some 26), none, (.bin .quo (.t 25) (.k (.int .u32 2)))⟩, ⟨(some 3), none, (.mv (.t 26))⟩]) (.seq (.reg [⟨(some 27), none, (.mv (.t 6))⟩, 
  ⟨(some 28), none, (.eq false .i (.t 27) (.k (.int .u32 1)))⟩]) (.cond (.t 28) (.reg [⟨(some 29), none, (.mv (.t 3))⟩, 
  ⟨(some 30), none, (.bin .xor (.t 29) (.k (.int .u32 3988292384)))⟩, ⟨(some 3), none, (.mv (.t 30))⟩]) .skip))))) (.reg [⟨(some 21), none, (.mv (.t 5))⟩, 
  ⟨(some 22), none, (.bin .add (.t 21) (.k (.int .i64 1)))⟩, ⟨(some 5), none, (.mv (.t 22))⟩])))))))) (.reg [⟨(some 11), none, (.mv (.t 4))⟩, 
  ⟨(some 12), none, (.bin .add (.t 11) (.k (.int .i64 1)))⟩, ⟨(some 4), none, (.mv (.t 12))⟩])))))) (.seq (.reg [⟨(some 31), none, (.mv (.t 3))⟩, 
  ⟨(some 32), none, (.bin .xor (.t 31) (.k (.int .u32 4294967295)))⟩, ⟨(some 2), none, (.mv (.t 32))⟩]) .ret))))⟩
theorem c_r05_CRC : compF Tryd.prog ⟨none, none⟩ Tryd.f41 = some r_r05_CRC := by kernel_rfl
/-- tenancy/wal.frames -/
def r_wal_frames : RF :=
  ⟨4, [(.tmp 2)], (.seq (.reg [⟨(some 1), none, (.box none (.t 0))⟩, ⟨(some 2), none, (.mv (.k .nilf))⟩]) (.seq (.reg [⟨(some 3), none, (.mkf f_wal_frames_1 [(.t 1)])⟩, 
  ⟨(some 2), none, (.mv (.t 3))⟩]) .ret))⟩
theorem c_wal_frames : compF Tryd.prog ⟨none, none⟩ Tryd.f42 = some r_wal_frames := by kernel_rfl
/-- tenancy/tenancyref07.one -/
def r_r07_one : RF :=
  ⟨55, [(.tmp 4), (.tmp 5)], (.seq (.reg [⟨(some 4), none, (.mv (.k (.str (bts []))))⟩, ⟨(some 5), none, (.mv (.k (.bool false)))⟩]) (.seq (.reg [⟨(some 12), none, (.mv (.t 0))⟩, 
  ⟨(some 13), none, (.mv (.t 1))⟩, ⟨(some 14), none, (.call f_r04_Get32 [(.t 12), (.t 13)])⟩, ⟨(some 11), none, (.mv (.t 14))⟩, ⟨(some 15), none, (.ext 0 (.t 11))⟩, 
  ⟨(some 16), none, (.ext 1 (.t 11))⟩, ⟨(some 6), none, (.mv (.t 15))⟩, ⟨(some 7), none, (.mv (.t 16))⟩]) (.seq (.reg [⟨(some 18), none, (.mv (.t 0))⟩, 
  ⟨(some 19), none, (.mv (.t 1))⟩, ⟨(some 20), none, (.bin .add (.t 19) (.k (.int .i64 4)))⟩, ⟨(some 21), none, (.call f_r04_Get32 [(.t 18), (.t 20)])⟩, 
  ⟨(some 17), none, (.mv (.t 21))⟩, ⟨(some 22), none, (.ext 0 (.t 17))⟩, ⟨(some 23), none, (.ext 1 (.t 17))⟩, ⟨(some 8), none, (.mv (.t 22))⟩, ⟨(some 9), none, (.mv (.t 23))⟩]) 
  (.seq (.seq (.reg [⟨(some 24), none, (.mv (.t 7))⟩, ⟨(some 25), none, (.un .not (.t 24))⟩, ⟨(some 26), none, (.mv (.t 25))⟩, ⟨(some 27), (some (26, false)), (.mv (.t 9))⟩, 
  ⟨(some 28), (some (26, false)), (.un .not (.t 27))⟩, ⟨(some 29), none, (.pick (.t 26) (.k (.bool true)) (.t 28))⟩, ⟨(some 30), none, (.mv (.t 29))⟩, 
  ⟨(some 31), (some (30, false)), (.mv (.t 6))⟩, ⟨(some 32), (some (30, false)), (.bin .lss (.t 31) (.k (.int .u32 1)))⟩, 
  ⟨(some 33), none, (.pick (.t 30) (.k (.bool true)) (.t 32))⟩, ⟨(some 34), none, (.mv (.t 33))⟩, ⟨(some 35), (some (34, false)), (.mv (.t 6))⟩, 
  ⟨(some 36), (some (34, false)), (.bin .gtr (.t 35) (.k (.int .u32 65536)))⟩, ⟨(some 37), none, (.pick (.t 34) (.k (.bool true)) (.t 36))⟩]) (.cond (.t 37) (.seq 
  (.reg [⟨(some 4), none, (.mv (.k (.str (bts []))))⟩, ⟨(some 5), none, (.mv (.k (.bool false)))⟩]) .ret) .skip)) (.seq (.reg [⟨(some 39), none, (.mv (.t 0))⟩, 
  ⟨(some 40), none, (.mv (.t 1))⟩, ⟨(some 41), none, (.bin .add (.t 40) (.k (.int .i64 8)))⟩, ⟨(some 42), none, (.mv (.t 6))⟩, ⟨(some 43), none, (.cvi .i64 (.t 42))⟩, 
  ⟨(some 44), none, (.call f_r04_Cut [(.t 39), (.t 41), (.t 43)])⟩, ⟨(some 38), none, (.mv (.t 44))⟩, ⟨(some 45), none, (.ext 0 (.t 38))⟩, ⟨(some 46), none, (.ext 1 (.t 38))⟩, 
  ⟨(some 10), none, (.mv (.t 45))⟩, ⟨(some 7), none, (.mv (.t 46))⟩]) (.seq (.reg [⟨(some 47), none, (.mv (.t 10))⟩, ⟨(some 48), none, (.mv (.t 7))⟩, 
  ⟨(some 49), none, (.mv (.t 48))⟩, ⟨(some 50), (some (49, true)), (.mv (.t 10))⟩, ⟨(some 51), (some (49, true)), (.call f_r05_CRC [(.t 50)])⟩, 
  ⟨(some 52), (some (49, true)), (.mv (.t 8))⟩, ⟨(some 53), (some (49, true)), (.eq false .i (.t 51) (.t 52))⟩, ⟨(some 54), none, (.pick (.t 49) (.t 53) (.k (.bool false)))⟩, 
  ⟨(some 4), none, (.mv (.t 47))⟩, ⟨(some 5), none, (.mv (.t 54))⟩]) .ret))))))⟩
theorem c_r07_one : compF Tryd.prog ⟨none, none⟩ Tryd.f43 = some r_r07_one := by kernel_rfl
/-- (*tenancy/files.Disk).Cut -/
def r_files_Disk_Cut : RF :=
  ⟨50, [(.tmp 6)], (.seq (.reg [⟨(some 6), none, (.mv (.k (.int .i64 0)))⟩]) (.seq (.reg [⟨(some 11), none, (.mv (.t 0))⟩, ⟨(some 12), none, (.mv (.t 1))⟩, 
  ⟨(some 13), none, (.call f_files_Disk_find [(.t 11), (.t 12)])⟩, ⟨(some 10), none, (.mv (.t 13))⟩, ⟨(some 14), none, (.ext 0 (.t 10))⟩, ⟨(some 15), none, (.ext 1 (.t 10))⟩, 
  ⟨(some 7), none, (.mv (.t 14))⟩, ⟨(some 8), none, (.mv (.t 15))⟩]) (.seq (.block 0 (.seq (.reg [⟨(some 17), none, (.mv (.t 8))⟩, 
  ⟨(some 18), none, (.eq true .i (.t 17) (.k (.int .i64 0)))⟩, ⟨(some 16), none, (.mv (.t 18))⟩]) (.cond (.t 16) (.seq (.reg [⟨(some 19), none, (.mv (.t 8))⟩, 
  ⟨(some 6), none, (.mv (.t 19))⟩]) .ret) (.seq (.reg [⟨(some 21), none, (.mv (.t 2))⟩, ⟨(some 22), none, (.bin .lss (.t 21) (.k (.int .i64 0)))⟩, ⟨(some 23), none, (.mv (.t 22))⟩, 
  ⟨(some 24), (some (23, false)), (.mv (.t 2))⟩, ⟨(some 25), (some (23, false)), (.mv (.t 7))⟩, ⟨(some 26), (some (23, false)), (.nck (.t 25))⟩, 
  ⟨(some 27), (some (23, false)), (.off 0 (.t 26))⟩, ⟨(some 28), (some (23, false)), (.ld none (.t 27))⟩, ⟨(some 29), (some (23, false)), (.lens (.t 28))⟩, 
  ⟨(some 30), (some (23, false)), (.bin .gtr (.t 24) (.t 29))⟩, ⟨(some 31), none, (.pick (.t 23) (.k (.bool true)) (.t 30))⟩, ⟨(some 20), none, (.mv (.t 31))⟩]) (.cond (.t 20) (.seq 
  (.reg [⟨(some 6), none, (.mv (.k (.int .i64 1)))⟩]) .ret) .skip))))) (.seq (.seq (.reg [⟨(some 32), none, (.mv (.t 0))⟩, ⟨(some 33), none, (.call f_files_Disk_spend [(.t 32)])⟩, 
  ⟨(some 9), none, (.mv (.t 33))⟩]) (.seq (.reg [⟨(some 34), none, (.mv (.t 9))⟩, ⟨(some 35), none, (.eq true .i (.t 34) (.k (.int .i64 0)))⟩]) (.cond (.t 35) (.seq 
  (.reg [⟨(some 36), none, (.mv (.t 9))⟩, ⟨(some 6), none, (.mv (.t 36))⟩]) .ret) .skip))) (.seq (.reg [⟨(some 37), none, (.mv (.t 7))⟩, ⟨(some 38), none, (.mv (.t 7))⟩, 
  ⟨(some 39), none, (.mv (.t 7))⟩, ⟨(some 40), none, (.nck (.t 39))⟩, ⟨(some 41), none, (.off 0 (.t 40))⟩, ⟨(some 42), none, (.ld none (.t 41))⟩, ⟨(some 43), none, (.mv (.t 2))⟩, 
  ⟨(some 44), none, (.sls (.t 42) none (some (.t 43)))⟩, ⟨(some 45), none, (.mv (.t 2))⟩, ⟨(some 46), none, (.nck (.t 37))⟩, ⟨(some 47), none, (.off 0 (.t 46))⟩, 
  ⟨none, none, (.st none (.t 47) (.t 44))⟩, ⟨(some 48), none, (.nck (.t 38))⟩, ⟨(some 49), none, (.off 1 (.t 48))⟩, ⟨none, none, (.st none (.t 49) (.t 45))⟩]) (.seq 
  (.reg [⟨(some 6), none, (.mv (.k (.int .i64 0)))⟩]) .ret))))))⟩
theorem c_files_Disk_Cut : compF Tryd.prog ⟨none, none⟩ Tryd.f44 = some r_files_Disk_Cut := by kernel_rfl
/-- (*tenancy/wal.Log).check -/
def r_wal_Log_check : RF :=
  ⟨23, [(.tmp 2)], (.seq (.reg [⟨(some 2), none, (.mv (.k (.int .i64 0)))⟩]) (.seq (.seq (.reg [⟨(some 3), none, (.mv (.t 0))⟩, ⟨(some 4), none, (.eq false .p (.t 3) (.k .nilp))⟩]) 
  (.cond (.t 4) (.seq (.reg [⟨(some 2), none, (.mv (.k (.int .i64 2)))⟩]) .ret) .skip)) (.seq (.reg [⟨(some 5), none, (.mv (.t 0))⟩, ⟨(some 6), none, (.mv (.t 0))⟩, 
  ⟨(some 7), none, (.nck (.t 6))⟩, ⟨(some 8), none, (.off 3 (.t 7))⟩, ⟨(some 9), none, (.ld none (.t 8))⟩, ⟨(some 10), none, (.mv (.t 9))⟩, 
  ⟨(some 11), (some (10, false)), (.mv (.t 0))⟩, ⟨(some 12), (some (10, false)), (.nck (.t 11))⟩, ⟨(some 13), (some (10, false)), (.off 0 (.t 12))⟩, 
  ⟨(some 14), (some (10, false)), (.ld none (.t 13))⟩, ⟨(some 15), (some (10, false)), (.call f_files_Disk_Down [(.t 14)])⟩, 
  ⟨(some 16), none, (.pick (.t 10) (.k (.bool true)) (.t 15))⟩, ⟨(some 17), none, (.nck (.t 5))⟩, ⟨(some 18), none, (.off 3 (.t 17))⟩, ⟨none, none, (.st none (.t 18) (.t 16))⟩]) 
  (.seq (.seq (.reg [⟨(some 19), none, (.mv (.t 0))⟩, ⟨(some 20), none, (.nck (.t 19))⟩, ⟨(some 21), none, (.off 3 (.t 20))⟩, ⟨(some 22), none, (.ld none (.t 21))⟩]) (.cond (.t 22) 
  (.seq (.reg [⟨(some 2), none, (.mv (.k (.int .i64 60)))⟩]) .ret) .skip)) (.seq (.reg [⟨(some 2), none, (.mv (.k (.int .i64 0)))⟩]) .ret)))))⟩
theorem c_wal_Log_check : compF Tryd.prog ⟨none, none⟩ Tryd.f45 = some r_wal_Log_check := by kernel_rfl
/-- (*tenancy/files.Disk).Sync -/
def r_files_Disk_Sync : RF :=
  ⟨30, [(.tmp 4)], (.seq (.reg [⟨(some 4), none, (.mv (.k (.int .i64 0)))⟩]) (.seq (.reg [⟨(some 9), none, (.mv (.t 0))⟩, ⟨(some 10), none, (.mv (.t 1))⟩, 
  ⟨(some 11), none, (.call f_files_Disk_find [(.t 9), (.t 10)])⟩, ⟨(some 8), none, (.mv (.t 11))⟩, ⟨(some 12), none, (.ext 0 (.t 8))⟩, ⟨(some 13), none, (.ext 1 (.t 8))⟩, 
  ⟨(some 5), none, (.mv (.t 12))⟩, ⟨(some 6), none, (.mv (.t 13))⟩]) (.seq (.seq (.reg [⟨(some 14), none, (.mv (.t 6))⟩, 
  ⟨(some 15), none, (.eq true .i (.t 14) (.k (.int .i64 0)))⟩]) (.cond (.t 15) (.seq (.reg [⟨(some 16), none, (.mv (.t 6))⟩, ⟨(some 4), none, (.mv (.t 16))⟩]) .ret) .skip)) (.seq 
  (.seq (.reg [⟨(some 17), none, (.mv (.t 0))⟩, ⟨(some 18), none, (.call f_files_Disk_spend [(.t 17)])⟩, ⟨(some 7), none, (.mv (.t 18))⟩]) (.seq 
  (.reg [⟨(some 19), none, (.mv (.t 7))⟩, ⟨(some 20), none, (.eq true .i (.t 19) (.k (.int .i64 0)))⟩]) (.cond (.t 20) (.seq (.reg [⟨(some 21), none, (.mv (.t 7))⟩, 
  ⟨(some 4), none, (.mv (.t 21))⟩]) .ret) .skip))) (.seq (.reg [⟨(some 22), none, (.mv (.t 5))⟩, ⟨(some 23), none, (.mv (.t 5))⟩, ⟨(some 24), none, (.nck (.t 23))⟩, 
  ⟨(some 25), none, (.off 0 (.t 24))⟩, ⟨(some 26), none, (.ld none (.t 25))⟩, ⟨(some 27), none, (.lens (.t 26))⟩, ⟨(some 28), none, (.nck (.t 22))⟩, 
  ⟨(some 29), none, (.off 1 (.t 28))⟩, ⟨none, none, (.st none (.t 29) (.t 27))⟩]) (.seq (.reg [⟨(some 4), none, (.mv (.k (.int .i64 0)))⟩]) .ret))))))⟩
theorem c_files_Disk_Sync : compF Tryd.prog ⟨none, none⟩ Tryd.f46 = some r_files_Disk_Sync := by kernel_rfl
/-- (*tenancy/files.Disk).lose -/
def r_files_Disk_lose : RF :=
  ⟨55, [], (.seq (.seq (.reg [⟨(some 6), none, (.mv (.t 0))⟩, ⟨(some 7), none, (.nck (.t 6))⟩, ⟨(some 8), none, (.off 0 (.t 7))⟩, ⟨(some 9), none, (.ld none (.t 8))⟩, 
  ⟨(some 10), none, .fail⟩]) (.block 0 (.loop (.seq (.reg [⟨(some 11), none, .fail⟩, ⟨(some 12), none, (.ext 0 (.t 11))⟩]) (.seq (.cond (.t 12) .skip (.exit 0)) (.block 1 (.seq 
  (.reg [⟨(some 13), none, .fail⟩, ⟨(some 14), none, (.ext 1 (.t 13))⟩, ⟨(some 5), none, (.mv (.t 14))⟩]) (.seq (.seq (.reg [⟨(some 15), none, (.mv (.t 1))⟩, 
  ⟨(some 16), none, (.bin .gtr (.t 15) (.k (.int .i64 0)))⟩]) (.cond (.t 16) (.drw 0 [⟨⟨(some 17), none, (.mv (.t 5))⟩, .pure, [], []⟩, 
  ⟨⟨(some 18), none, (.nck (.t 17))⟩, .pure, [], []⟩, ⟨⟨(some 19), none, (.off 1 (.t 18))⟩, .pure, [], []⟩, ⟨⟨(some 20), none, (.ld none (.t 19))⟩, .ld, [], []⟩, 
  ⟨⟨(some 21), none, (.mv (.t 1))⟩, .pure, [3], []⟩, ⟨⟨(some 22), none, (.mv (.t 5))⟩, .pure, [3], []⟩, ⟨⟨(some 23), none, (.nck (.t 22))⟩, .pure, [3], []⟩, 
  ⟨⟨(some 24), none, (.off 0 (.t 23))⟩, .pure, [3], []⟩, ⟨⟨(some 25), none, (.ld none (.t 24))⟩, .ld, [], []⟩, ⟨⟨(some 26), none, (.lens (.t 25))⟩, .pure, [3], []⟩, 
  ⟨⟨(some 27), none, (.mv (.t 5))⟩, .pure, [3, 8], []⟩, ⟨⟨(some 28), none, (.nck (.t 27))⟩, .pure, [3, 8], []⟩, ⟨⟨(some 29), none, (.off 1 (.t 28))⟩, .pure, [3, 8], []⟩, 
  ⟨⟨(some 30), none, (.ld none (.t 29))⟩, .ld, [], []⟩, ⟨⟨(some 31), none, (.bin .sub (.t 26) (.t 30))⟩, .pure, [3], []⟩, 
  ⟨⟨(some 32), none, (.bin .add (.t 31) (.k (.int .i64 1)))⟩, .pure, [3], []⟩, ⟨⟨(some 33), none, (.bin .rem (.t 21) (.t 32))⟩, .pure, [3], []⟩, 
  ⟨⟨(some 34), none, (.bin .add (.t 20) (.t 33))⟩, .pure, [], []⟩, ⟨⟨(some 35), none, (.nck (.t 17))⟩, .pure, [], []⟩, ⟨⟨(some 36), none, (.off 1 (.t 35))⟩, .pure, [], []⟩, 
  ⟨⟨none, none, (.st none (.t 36) (.t 34))⟩, .eff, [], []⟩]) .skip)) (.drw 0 [⟨⟨(some 37), none, (.mv (.t 5))⟩, .pure, [], []⟩, ⟨⟨(some 38), none, (.mv (.t 5))⟩, .pure, [], []⟩, 
  ⟨⟨(some 39), none, (.nck (.t 38))⟩, .pure, [], []⟩, ⟨⟨(some 40), none, (.off 0 (.t 39))⟩, .pure, [], []⟩, ⟨⟨(some 41), none, (.ld none (.t 40))⟩, .ld, [], []⟩, 
  ⟨⟨(some 42), none, (.mv (.t 5))⟩, .pure, [4], []⟩, ⟨⟨(some 43), none, (.nck (.t 42))⟩, .pure, [4], []⟩, ⟨⟨(some 44), none, (.off 1 (.t 43))⟩, .pure, [4], []⟩, 
  ⟨⟨(some 45), none, (.ld none (.t 44))⟩, .ld, [], []⟩, ⟨⟨(some 46), none, (.sls (.t 41) none (some (.t 45)))⟩, .pure, [], []⟩, ⟨⟨(some 47), none, (.nck (.t 37))⟩, .pure, [], []⟩, 
  ⟨⟨(some 48), none, (.off 0 (.t 47))⟩, .pure, [], []⟩, ⟨⟨none, none, (.st none (.t 48) (.t 46))⟩, .eff, [], []⟩]))))))))) (.reg [⟨(some 49), none, (.mv (.t 0))⟩, 
  ⟨(some 50), none, (.mv (.t 0))⟩, ⟨(some 51), none, (.nck (.t 49))⟩, ⟨(some 52), none, (.off 1 (.t 51))⟩, ⟨none, none, (.st none (.t 52) (.k (.bool true)))⟩, 
  ⟨(some 53), none, (.nck (.t 50))⟩, ⟨(some 54), none, (.off 2 (.t 53))⟩, ⟨none, none, (.st none (.t 54) (.k (.bool false)))⟩]))⟩
theorem c_files_Disk_lose : compF Tryd.prog ⟨none, none⟩ Tryd.f47 = some r_files_Disk_lose := by kernel_rfl
/-- (*tenancy/tenancyref06.Disk).Cut -/
def r_r06_Disk_Cut : RF :=
  ⟨63, [(.tmp 6)], (.seq (.reg [⟨(some 6), none, (.mv (.k (.int .i64 0)))⟩]) (.seq (.seq (.reg [⟨(some 9), none, (.mv (.t 0))⟩, ⟨(some 10), none, (.mv (.t 1))⟩, 
  ⟨(some 11), none, (.call f_r06_Disk_check [(.t 9), (.t 10)])⟩, ⟨(some 7), none, (.mv (.t 11))⟩]) (.seq (.reg [⟨(some 12), none, (.mv (.t 7))⟩, 
  ⟨(some 13), none, (.eq true .i (.t 12) (.k (.int .i64 0)))⟩]) (.cond (.t 13) (.seq (.reg [⟨(some 14), none, (.mv (.t 7))⟩, ⟨(some 6), none, (.mv (.t 14))⟩]) .ret) .skip))) (.seq 
  (.reg [⟨(some 15), none, (.mv (.t 0))⟩, ⟨(some 16), none, (.mv (.t 1))⟩, ⟨(some 17), none, (.call f_r06_Disk_place [(.t 15), (.t 16)])⟩, ⟨(some 8), none, (.mv (.t 17))⟩]) (.seq 
  (.seq (.reg [⟨(some 18), none, (.mv (.t 8))⟩, ⟨(some 19), none, (.bin .lss (.t 18) (.k (.int .i64 0)))⟩]) (.cond (.t 19) (.seq 
  (.reg [⟨(some 6), none, (.mv (.k (.int .i64 62)))⟩]) .ret) .skip)) (.seq (.seq (.reg [⟨(some 20), none, (.mv (.t 2))⟩, ⟨(some 21), none, (.bin .lss (.t 20) (.k (.int .i64 0)))⟩, 
  ⟨(some 22), none, (.mv (.t 21))⟩, ⟨(some 23), (some (22, false)), (.mv (.t 2))⟩, ⟨(some 24), (some (22, false)), (.mv (.t 0))⟩, ⟨(some 25), (some (22, false)), (.nck (.t 24))⟩, 
  ⟨(some 26), (some (22, false)), (.off 0 (.t 25))⟩, ⟨(some 27), (some (22, false)), (.ld none (.t 26))⟩, ⟨(some 28), (some (22, false)), (.mv (.t 8))⟩, 
  ⟨(some 29), (some (22, false)), (.ixa 3 (.t 27) (.t 28))⟩, ⟨(some 30), (some (22, false)), (.off 1 (.t 29))⟩, ⟨(some 31), (some (22, false)), (.ld none (.t 30))⟩, 
  ⟨(some 32), (some (22, false)), (.lens (.t 31))⟩, ⟨(some 33), (some (22, false)), (.bin .gtr (.t 23) (.t 32))⟩, ⟨(some 34), none, (.pick (.t 22) (.k (.bool true)) (.t 33))⟩]) 
  (.cond (.t 34) (.seq (.reg [⟨(some 6), none, (.mv (.k (.int .i64 1)))⟩]) .ret) .skip)) (.seq (.seq (.reg [⟨(some 35), none, (.mv (.t 0))⟩, 
  ⟨(some 36), none, (.call f_r06_Disk_power [(.t 35)])⟩, ⟨(some 37), none, (.un .not (.t 36))⟩]) (.cond (.t 37) (.seq 
  (.reg [⟨(some 6), none, (.mv (.k (.int .i64 60)))⟩]) .ret) .skip)) (.seq (.drw 0 [⟨⟨(some 38), none, (.mv (.t 0))⟩, .pure, [], []⟩, 
  ⟨⟨(some 39), none, (.nck (.t 38))⟩, .pure, [], []⟩, ⟨⟨(some 40), none, (.off 0 (.t 39))⟩, .pure, [], []⟩, ⟨⟨(some 41), none, (.ld none (.t 40))⟩, .ld, [], []⟩, 
  ⟨⟨(some 42), none, (.mv (.t 8))⟩, .pure, [3], []⟩, ⟨⟨(some 43), none, (.mv (.t 0))⟩, .pure, [3], []⟩, ⟨⟨(some 44), none, (.nck (.t 43))⟩, .pure, [3], []⟩, 
  ⟨⟨(some 45), none, (.off 0 (.t 44))⟩, .pure, [3], []⟩, ⟨⟨(some 46), none, (.ld none (.t 45))⟩, .ld, [], []⟩, ⟨⟨(some 47), none, (.mv (.t 8))⟩, .pure, [3, 8], []⟩, 
  ⟨⟨(some 48), none, (.ixa 3 (.t 46) (.t 47))⟩, .pure, [3], []⟩, ⟨⟨(some 49), none, (.off 1 (.t 48))⟩, .pure, [3], []⟩, ⟨⟨(some 50), none, (.ld none (.t 49))⟩, .ld, [], []⟩, 
  ⟨⟨(some 51), none, (.mv (.t 2))⟩, .pure, [3, 8, 12], []⟩, ⟨⟨(some 52), none, (.sls (.t 50) none (some (.t 51)))⟩, .pure, [3], []⟩, 
  ⟨⟨(some 53), none, (.ixa 3 (.t 41) (.t 42))⟩, .pure, [], []⟩, ⟨⟨(some 54), none, (.off 1 (.t 53))⟩, .pure, [], []⟩, ⟨⟨none, none, (.st none (.t 54) (.t 52))⟩, .eff, [], []⟩]) 
  (.seq (.reg [⟨(some 55), none, (.mv (.t 0))⟩, ⟨(some 56), none, (.nck (.t 55))⟩, ⟨(some 57), none, (.off 0 (.t 56))⟩, ⟨(some 58), none, (.ld none (.t 57))⟩, 
  ⟨(some 59), none, (.mv (.t 8))⟩, ⟨(some 60), none, (.mv (.t 2))⟩, ⟨(some 61), none, (.ixa 3 (.t 58) (.t 59))⟩, ⟨(some 62), none, (.off 2 (.t 61))⟩, 
  ⟨none, none, (.st none (.t 62) (.t 60))⟩]) (.seq (.reg [⟨(some 6), none, (.mv (.k (.int .i64 0)))⟩]) .ret)))))))))⟩
theorem c_r06_Disk_Cut : compF Tryd.prog ⟨none, none⟩ Tryd.f48 = some r_r06_Disk_Cut := by kernel_rfl
/-- (*tenancy/tenancyref07.Log).check -/
def r_r07_Log_check : RF :=
  ⟨17, [(.tmp 2)], (.seq (.reg [⟨(some 2), none, (.mv (.k (.int .i64 0)))⟩]) (.seq (.seq (.reg [⟨(some 3), none, (.mv (.t 0))⟩, ⟨(some 4), none, (.eq false .p (.t 3) (.k .nilp))⟩]) 
  (.cond (.t 4) (.seq (.reg [⟨(some 2), none, (.mv (.k (.int .i64 2)))⟩]) .ret) .skip)) (.seq (.seq (.reg [⟨(some 5), none, (.mv (.t 0))⟩, ⟨(some 6), none, (.nck (.t 5))⟩, 
  ⟨(some 7), none, (.off 0 (.t 6))⟩, ⟨(some 8), none, (.ld none (.t 7))⟩, ⟨(some 9), none, (.call f_r06_Disk_Down [(.t 8)])⟩]) (.cond (.t 9) (.reg [⟨(some 10), none, (.mv (.t 0))⟩, 
  ⟨(some 11), none, (.nck (.t 10))⟩, ⟨(some 12), none, (.off 3 (.t 11))⟩, ⟨none, none, (.st none (.t 12) (.k (.bool true)))⟩]) .skip)) (.seq (.seq 
  (.reg [⟨(some 13), none, (.mv (.t 0))⟩, ⟨(some 14), none, (.nck (.t 13))⟩, ⟨(some 15), none, (.off 3 (.t 14))⟩, ⟨(some 16), none, (.ld none (.t 15))⟩]) (.cond (.t 16) (.seq 
  (.reg [⟨(some 2), none, (.mv (.k (.int .i64 60)))⟩]) .ret) .skip)) (.seq (.reg [⟨(some 2), none, (.mv (.k (.int .i64 0)))⟩]) .ret)))))⟩
theorem c_r07_Log_check : compF Tryd.prog ⟨none, none⟩ Tryd.f49 = some r_r07_Log_check := by kernel_rfl
/-- (*tenancy/tenancyref06.Disk).Sync -/
def r_r06_Disk_Sync : RF :=
  ⟨37, [(.tmp 4)], (.seq (.reg [⟨(some 4), none, (.mv (.k (.int .i64 0)))⟩]) (.seq (.seq (.reg [⟨(some 7), none, (.mv (.t 0))⟩, ⟨(some 8), none, (.mv (.t 1))⟩, 
  ⟨(some 9), none, (.call f_r06_Disk_check [(.t 7), (.t 8)])⟩, ⟨(some 5), none, (.mv (.t 9))⟩]) (.seq (.reg [⟨(some 10), none, (.mv (.t 5))⟩, 
  ⟨(some 11), none, (.eq true .i (.t 10) (.k (.int .i64 0)))⟩]) (.cond (.t 11) (.seq (.reg [⟨(some 12), none, (.mv (.t 5))⟩, ⟨(some 4), none, (.mv (.t 12))⟩]) .ret) .skip))) (.seq 
  (.reg [⟨(some 13), none, (.mv (.t 0))⟩, ⟨(some 14), none, (.mv (.t 1))⟩, ⟨(some 15), none, (.call f_r06_Disk_place [(.t 13), (.t 14)])⟩, ⟨(some 6), none, (.mv (.t 15))⟩]) (.seq 
  (.seq (.reg [⟨(some 16), none, (.mv (.t 6))⟩, ⟨(some 17), none, (.bin .lss (.t 16) (.k (.int .i64 0)))⟩]) (.cond (.t 17) (.seq 
  (.reg [⟨(some 4), none, (.mv (.k (.int .i64 62)))⟩]) .ret) .skip)) (.seq (.seq (.reg [⟨(some 18), none, (.mv (.t 0))⟩, ⟨(some 19), none, (.call f_r06_Disk_power [(.t 18)])⟩, 
  ⟨(some 20), none, (.un .not (.t 19))⟩]) (.cond (.t 20) (.seq (.reg [⟨(some 4), none, (.mv (.k (.int .i64 60)))⟩]) .ret) .skip)) (.seq 
  (.drw 0 [⟨⟨(some 21), none, (.mv (.t 0))⟩, .pure, [], []⟩, ⟨⟨(some 22), none, (.nck (.t 21))⟩, .pure, [], []⟩, ⟨⟨(some 23), none, (.off 0 (.t 22))⟩, .pure, [], []⟩, 
  ⟨⟨(some 24), none, (.ld none (.t 23))⟩, .ld, [], []⟩, ⟨⟨(some 25), none, (.mv (.t 6))⟩, .pure, [3], []⟩, ⟨⟨(some 26), none, (.mv (.t 0))⟩, .pure, [3], []⟩, 
  ⟨⟨(some 27), none, (.nck (.t 26))⟩, .pure, [3], []⟩, ⟨⟨(some 28), none, (.off 0 (.t 27))⟩, .pure, [3], []⟩, ⟨⟨(some 29), none, (.ld none (.t 28))⟩, .ld, [], []⟩, 
  ⟨⟨(some 30), none, (.mv (.t 6))⟩, .pure, [3, 8], []⟩, ⟨⟨(some 31), none, (.ixa 3 (.t 29) (.t 30))⟩, .pure, [3], []⟩, ⟨⟨(some 32), none, (.off 1 (.t 31))⟩, .pure, [3], []⟩, 
  ⟨⟨(some 33), none, (.ld none (.t 32))⟩, .ld, [], []⟩, ⟨⟨(some 34), none, (.lens (.t 33))⟩, .pure, [3], []⟩, ⟨⟨(some 35), none, (.ixa 3 (.t 24) (.t 25))⟩, .pure, [], []⟩, 
  ⟨⟨(some 36), none, (.off 2 (.t 35))⟩, .pure, [], []⟩, ⟨⟨none, none, (.st none (.t 36) (.t 34))⟩, .eff, [], []⟩]) (.seq 
  (.reg [⟨(some 4), none, (.mv (.k (.int .i64 0)))⟩]) .ret)))))))⟩
theorem c_r06_Disk_Sync : compF Tryd.prog ⟨none, none⟩ Tryd.f50 = some r_r06_Disk_Sync := by kernel_rfl
/-- (*tenancy/tenancyref06.Disk).goes -/
def r_r06_Disk_goes : RF :=
  ⟨87, [], (.seq (.seq (.reg [⟨(some 4), none, (.mv (.k (.int .i64 0)))⟩]) (.block 0 (.loop (.seq (.seq (.reg [⟨(some 7), none, (.mv (.t 4))⟩, ⟨(some 8), none, (.mv (.t 0))⟩, 
  ⟨(some 9), none, (.nck (.t 8))⟩, ⟨(some 10), none, (.off 0 (.t 9))⟩, ⟨(some 11), none, (.ld none (.t 10))⟩, ⟨(some 12), none, (.lenl (.t 11))⟩, 
  ⟨(some 13), none, (.bin .lss (.t 7) (.t 12))⟩]) (.cond (.t 13) .skip (.exit 0))) (.seq (.block 1 (.seq (.drw 0 [⟨⟨(some 16), none, (.mv (.t 0))⟩, .pure, [], []⟩, 
  ⟨⟨(some 17), none, (.nck (.t 16))⟩, .pure, [], []⟩, ⟨⟨(some 18), none, (.off 0 (.t 17))⟩, .pure, [], []⟩, ⟨⟨(some 19), none, (.ld none (.t 18))⟩, .ld, [], []⟩, 
  ⟨⟨(some 20), none, (.mv (.t 4))⟩, .pure, [3], []⟩, ⟨⟨(some 21), none, (.ixa 3 (.t 19) (.t 20))⟩, .pure, [], []⟩, ⟨⟨(some 22), none, (.off 1 (.t 21))⟩, .pure, [], []⟩, 
  ⟨⟨(some 23), none, (.ld none (.t 22))⟩, .ld, [], []⟩, ⟨⟨(some 24), none, (.lens (.t 23))⟩, .pure, [], []⟩, ⟨⟨(some 25), none, (.mv (.t 0))⟩, .pure, [3, 7], []⟩, 
  ⟨⟨(some 26), none, (.nck (.t 25))⟩, .pure, [3, 7], []⟩, ⟨⟨(some 27), none, (.off 0 (.t 26))⟩, .pure, [3, 7], []⟩, ⟨⟨(some 28), none, (.ld none (.t 27))⟩, .ld, [], []⟩, 
  ⟨⟨(some 29), none, (.mv (.t 4))⟩, .pure, [3, 7, 12], []⟩, ⟨⟨(some 30), none, (.ixa 3 (.t 28) (.t 29))⟩, .pure, [3, 7], []⟩, 
  ⟨⟨(some 31), none, (.off 2 (.t 30))⟩, .pure, [3, 7], []⟩, ⟨⟨(some 32), none, (.ld none (.t 31))⟩, .ld, [], []⟩, ⟨⟨(some 33), none, (.bin .sub (.t 24) (.t 32))⟩, .pure, [], []⟩, 
  ⟨⟨(some 5), none, (.mv (.t 33))⟩, .pure, [], []⟩]) (.seq (.reg [⟨(some 6), none, (.mv (.k (.int .i64 0)))⟩]) (.seq (.seq (.reg [⟨(some 34), none, (.mv (.t 1))⟩, 
  ⟨(some 35), none, (.bin .gtr (.t 34) (.k (.int .i64 0)))⟩]) (.cond (.t 35) (.reg [⟨(some 36), none, (.mv (.t 1))⟩, ⟨(some 37), none, (.mv (.t 5))⟩, 
  ⟨(some 38), none, (.bin .add (.t 37) (.k (.int .i64 1)))⟩, ⟨(some 39), none, (.bin .rem (.t 36) (.t 38))⟩, ⟨(some 6), none, (.mv (.t 39))⟩]) .skip)) (.seq 
  (.drw 0 [⟨⟨(some 40), none, (.mv (.t 0))⟩, .pure, [], []⟩, ⟨⟨(some 41), none, (.nck (.t 40))⟩, .pure, [], []⟩, ⟨⟨(some 42), none, (.off 0 (.t 41))⟩, .pure, [], []⟩, 
  ⟨⟨(some 43), none, (.ld none (.t 42))⟩, .ld, [], []⟩, ⟨⟨(some 44), none, (.mv (.t 4))⟩, .pure, [3], []⟩, ⟨⟨(some 45), none, (.mv (.t 0))⟩, .pure, [3], []⟩, 
  ⟨⟨(some 46), none, (.nck (.t 45))⟩, .pure, [3], []⟩, ⟨⟨(some 47), none, (.off 0 (.t 46))⟩, .pure, [3], []⟩, ⟨⟨(some 48), none, (.ld none (.t 47))⟩, .ld, [], []⟩, 
  ⟨⟨(some 49), none, (.mv (.t 4))⟩, .pure, [3, 8], []⟩, ⟨⟨(some 50), none, (.ixa 3 (.t 48) (.t 49))⟩, .pure, [3], []⟩, ⟨⟨(some 51), none, (.off 2 (.t 50))⟩, .pure, [3], []⟩, 
  ⟨⟨(some 52), none, (.ld none (.t 51))⟩, .ld, [], []⟩, ⟨⟨(some 53), none, (.mv (.t 6))⟩, .pure, [3, 8, 12], []⟩, ⟨⟨(some 54), none, (.bin .add (.t 52) (.t 53))⟩, .pure, [3], []⟩, 
  ⟨⟨(some 55), none, (.ixa 3 (.t 43) (.t 44))⟩, .pure, [], []⟩, ⟨⟨(some 56), none, (.off 2 (.t 55))⟩, .pure, [], []⟩, ⟨⟨none, none, (.st none (.t 56) (.t 54))⟩, .eff, [], []⟩]) 
  (.drw 0 [⟨⟨(some 57), none, (.mv (.t 0))⟩, .pure, [], []⟩, ⟨⟨(some 58), none, (.nck (.t 57))⟩, .pure, [], []⟩, ⟨⟨(some 59), none, (.off 0 (.t 58))⟩, .pure, [], []⟩, 
  ⟨⟨(some 60), none, (.ld none (.t 59))⟩, .ld, [], []⟩, ⟨⟨(some 61), none, (.mv (.t 4))⟩, .pure, [3], []⟩, ⟨⟨(some 62), none, (.mv (.t 0))⟩, .pure, [3], []⟩, 
  ⟨⟨(some 63), none, (.nck (.t 62))⟩, .pure, [3], []⟩, ⟨⟨(some 64), none, (.off 0 (.t 63))⟩, .pure, [3], []⟩, ⟨⟨(some 65), none, (.ld none (.t 64))⟩, .ld, [], []⟩, 
  ⟨⟨(some 66), none, (.mv (.t 4))⟩, .pure, [3, 8], []⟩, ⟨⟨(some 67), none, (.ixa 3 (.t 65) (.t 66))⟩, .pure, [3], []⟩, ⟨⟨(some 68), none, (.off 1 (.t 67))⟩, .pure, [3], []⟩, 
  ⟨⟨(some 69), none, (.ld none (.t 68))⟩, .ld, [], []⟩, ⟨⟨(some 70), none, (.mv (.t 0))⟩, .pure, [3, 8, 12], []⟩, ⟨⟨(some 71), none, (.nck (.t 70))⟩, .pure, [3, 8, 12], []⟩, 
  ⟨⟨(some 72), none, (.off 0 (.t 71))⟩, .pure, [3, 8, 12], []⟩, ⟨⟨(some 73), none, (.ld none (.t 72))⟩, .ld, [], []⟩, ⟨⟨(some 74), none, (.mv (.t 4))⟩, .pure, [3, 8, 12, 16], []⟩, 
  ⟨⟨(some 75), none, (.ixa 3 (.t 73) (.t 74))⟩, .pure, [3, 8, 12], []⟩, ⟨⟨(some 76), none, (.off 2 (.t 75))⟩, .pure, [3, 8, 12], []⟩, 
  ⟨⟨(some 77), none, (.ld none (.t 76))⟩, .ld, [], []⟩, ⟨⟨(some 78), none, (.sls (.t 69) none (some (.t 77)))⟩, .pure, [3], []⟩, 
  ⟨⟨(some 79), none, (.ixa 3 (.t 60) (.t 61))⟩, .pure, [], []⟩, ⟨⟨(some 80), none, (.off 1 (.t 79))⟩, .pure, [], []⟩, ⟨⟨none, none, (.st none (.t 80) (.t 78))⟩, .eff, [], []⟩])))))) 
  (.reg [⟨(some 14), none, (.mv (.t 4))⟩, ⟨(some 15), none, (.bin .add (.t 14) (.k (.int .i64 1)))⟩, ⟨(some 4), none, (.mv (.t 15))⟩])))))) (.seq 
  (.reg [⟨(some 81), none, (.mv (.t 0))⟩, ⟨(some 82), none, (.nck (.t 81))⟩, ⟨(some 83), none, (.off 1 (.t 82))⟩, ⟨none, none, (.st none (.t 83) (.k (.bool true)))⟩]) 
  (.reg [⟨(some 84), none, (.mv (.t 0))⟩, ⟨(some 85), none, (.nck (.t 84))⟩, ⟨(some 86), none, (.off 2 (.t 85))⟩, ⟨none, none, (.st none (.t 86) (.k (.int .i64 (-1))))⟩])))⟩
theorem c_r06_Disk_goes : compF Tryd.prog ⟨none, none⟩ Tryd.f51 = some r_r06_Disk_goes := by kernel_rfl
/-- (*tenancy/files.Disk).find -/
def r_files_Disk_find : RF :=
  ⟨24, [(.tmp 4), (.tmp 5)], (.seq (.reg [⟨(some 4), none, (.mv (.k .nilp))⟩, ⟨(some 5), none, (.mv (.k (.int .i64 0)))⟩]) (.seq (.seq (.reg [⟨(some 8), none, (.mv (.t 0))⟩, 
  ⟨(some 9), none, (.mv (.t 1))⟩, ⟨(some 10), none, (.bsl 1 1 [(.str (bts []))] [(0, (1, (.t 9)))])⟩, ⟨(some 11), none, (.call f_files_Disk_check [(.t 8), (.t 10)])⟩, 
  ⟨(some 6), none, (.mv (.t 11))⟩]) (.seq (.reg [⟨(some 12), none, (.mv (.t 6))⟩, ⟨(some 13), none, (.eq true .i (.t 12) (.k (.int .i64 0)))⟩]) (.cond (.t 13) (.seq 
  (.reg [⟨(some 14), none, (.mv (.t 6))⟩, ⟨(some 4), none, (.mv (.k .nilp))⟩, ⟨(some 5), none, (.mv (.t 14))⟩]) .ret) .skip))) (.seq (.reg [⟨(some 15), none, (.mv (.t 0))⟩, 
  ⟨(some 16), none, (.nck (.t 15))⟩, ⟨(some 17), none, (.off 0 (.t 16))⟩, ⟨(some 18), none, (.ld none (.t 17))⟩, ⟨(some 19), none, (.mv (.t 1))⟩, 
  ⟨(some 20), none, (.xt (.lku .s .nilp false) [(.t 18), (.t 19)])⟩, ⟨(some 7), none, (.mv (.t 20))⟩]) (.seq (.seq (.reg [⟨(some 21), none, (.mv (.t 7))⟩, 
  ⟨(some 22), none, (.eq false .p (.t 21) (.k .nilp))⟩]) (.cond (.t 22) (.seq (.reg [⟨(some 4), none, (.mv (.k .nilp))⟩, ⟨(some 5), none, (.mv (.k (.int .i64 62)))⟩]) .ret) .skip)) 
  (.seq (.reg [⟨(some 23), none, (.mv (.t 7))⟩, ⟨(some 4), none, (.mv (.t 23))⟩, ⟨(some 5), none, (.mv (.k (.int .i64 0)))⟩]) .ret)))))⟩
theorem c_files_Disk_find : compF Tryd.prog ⟨none, none⟩ Tryd.f52 = some r_files_Disk_find := by kernel_rfl
/-- (*tenancy/files.Disk).spend -/
def r_files_Disk_spend : RF :=
  ⟨34, [(.tmp 2)], (.seq (.reg [⟨(some 2), none, (.mv (.k (.int .i64 0)))⟩]) (.seq (.seq (.reg [⟨(some 3), none, (.mv (.t 0))⟩, ⟨(some 4), none, (.nck (.t 3))⟩, 
  ⟨(some 5), none, (.off 2 (.t 4))⟩, ⟨(some 6), none, (.ld none (.t 5))⟩, ⟨(some 7), none, (.mv (.t 6))⟩, ⟨(some 8), (some (7, true)), (.mv (.t 0))⟩, 
  ⟨(some 9), (some (7, true)), (.nck (.t 8))⟩, ⟨(some 10), (some (7, true)), (.off 3 (.t 9))⟩, ⟨(some 11), (some (7, true)), (.ld none (.t 10))⟩, 
  ⟨(some 12), (some (7, true)), (.eq false .i (.t 11) (.k (.int .i64 0)))⟩, ⟨(some 13), none, (.pick (.t 7) (.t 12) (.k (.bool false)))⟩]) (.cond (.t 13) (.seq 
  (.reg [⟨(some 14), none, (.mv (.t 0))⟩, ⟨(some 15), none, (.mv (.t 0))⟩, ⟨(some 16), none, (.nck (.t 15))⟩, ⟨(some 17), none, (.off 4 (.t 16))⟩, 
  ⟨(some 18), none, (.ld none (.t 17))⟩, ⟨(some 19), none, (.call f_files_Disk_lose [(.t 14), (.t 18)])⟩]) (.seq (.reg [⟨(some 2), none, (.mv (.k (.int .i64 60)))⟩]) .ret)) .skip)) 
  (.seq (.reg [⟨(some 20), none, (.mv (.t 0))⟩, ⟨(some 21), none, (.nck (.t 20))⟩, ⟨(some 22), none, (.off 3 (.t 21))⟩, ⟨(some 23), none, (.ld none (.t 22))⟩, 
  ⟨(some 24), none, (.bin .sub (.t 23) (.k (.int .i64 1)))⟩, ⟨(some 25), none, (.nck (.t 20))⟩, ⟨(some 26), none, (.off 3 (.t 25))⟩, ⟨none, none, (.st none (.t 26) (.t 24))⟩]) (.seq 
  (.reg [⟨(some 27), none, (.mv (.t 0))⟩, ⟨(some 28), none, (.nck (.t 27))⟩, ⟨(some 29), none, (.off 5 (.t 28))⟩, ⟨(some 30), none, (.ld none (.t 29))⟩, 
  ⟨(some 31), none, (.bin .add (.t 30) (.k (.int .i64 1)))⟩, ⟨(some 32), none, (.nck (.t 27))⟩, ⟨(some 33), none, (.off 5 (.t 32))⟩, ⟨none, none, (.st none (.t 33) (.t 31))⟩]) (.seq 
  (.reg [⟨(some 2), none, (.mv (.k (.int .i64 0)))⟩]) .ret)))))⟩
theorem c_files_Disk_spend : compF Tryd.prog ⟨none, none⟩ Tryd.f53 = some r_files_Disk_spend := by kernel_rfl
/-- (*tenancy/tenancyref06.Disk).check -/
def r_r06_Disk_check : RF :=
  ⟨14, [(.tmp 4)], (.seq (.reg [⟨(some 4), none, (.mv (.k (.int .i64 0)))⟩]) (.seq (.seq (.reg [⟨(some 5), none, (.mv (.t 0))⟩, ⟨(some 6), none, (.eq false .p (.t 5) (.k .nilp))⟩]) 
  (.cond (.t 6) (.seq (.reg [⟨(some 4), none, (.mv (.k (.int .i64 2)))⟩]) .ret) .skip)) (.seq (.seq (.reg [⟨(some 7), none, (.mv (.t 0))⟩, ⟨(some 8), none, (.nck (.t 7))⟩, 
  ⟨(some 9), none, (.off 1 (.t 8))⟩, ⟨(some 10), none, (.ld none (.t 9))⟩]) (.cond (.t 10) (.seq (.reg [⟨(some 4), none, (.mv (.k (.int .i64 60)))⟩]) .ret) .skip)) (.seq (.seq 
  (.reg [⟨(some 11), none, (.mv (.t 1))⟩, ⟨(some 12), none, (.call f_r06_Name [(.t 11)])⟩, ⟨(some 13), none, (.un .not (.t 12))⟩]) (.cond (.t 13) (.seq 
  (.reg [⟨(some 4), none, (.mv (.k (.int .i64 61)))⟩]) .ret) .skip)) (.seq (.reg [⟨(some 4), none, (.mv (.k (.int .i64 0)))⟩]) .ret)))))⟩
theorem c_r06_Disk_check : compF Tryd.prog ⟨none, none⟩ Tryd.f54 = some r_r06_Disk_check := by kernel_rfl
/-- (*tenancy/tenancyref06.Disk).place -/
def r_r06_Disk_place : RF :=
  ⟨26, [(.tmp 4)], (.seq (.reg [⟨(some 4), none, (.mv (.k (.int .i64 0)))⟩]) (.seq (.seq (.reg [⟨(some 5), none, (.mv (.k (.int .i64 0)))⟩]) (.block 0 (.loop (.seq (.seq 
  (.reg [⟨(some 6), none, (.mv (.t 5))⟩, ⟨(some 7), none, (.mv (.t 0))⟩, ⟨(some 8), none, (.nck (.t 7))⟩, ⟨(some 9), none, (.off 0 (.t 8))⟩, ⟨(some 10), none, (.ld none (.t 9))⟩, 
  ⟨(some 11), none, (.lenl (.t 10))⟩, ⟨(some 12), none, (.bin .lss (.t 6) (.t 11))⟩]) (.cond (.t 12) .skip (.exit 0))) (.seq (.block 1 (.seq (.reg [⟨(some 15), none, (.mv (.t 0))⟩, 
  ⟨(some 16), none, (.nck (.t 15))⟩, ⟨(some 17), none, (.off 0 (.t 16))⟩, ⟨(some 18), none, (.ld none (.t 17))⟩, ⟨(some 19), none, (.mv (.t 5))⟩, 
  ⟨(some 20), none, (.ixa 3 (.t 18) (.t 19))⟩, ⟨(some 21), none, (.off 0 (.t 20))⟩, ⟨(some 22), none, (.ld none (.t 21))⟩, ⟨(some 23), none, (.mv (.t 1))⟩, 
  ⟨(some 24), none, (.eq false .s (.t 22) (.t 23))⟩]) (.cond (.t 24) (.seq (.reg [⟨(some 25), none, (.mv (.t 5))⟩, ⟨(some 4), none, (.mv (.t 25))⟩]) .ret) .skip))) 
  (.reg [⟨(some 13), none, (.mv (.t 5))⟩, ⟨(some 14), none, (.bin .add (.t 13) (.k (.int .i64 1)))⟩, ⟨(some 5), none, (.mv (.t 14))⟩])))))) (.seq 
  (.reg [⟨(some 4), none, (.mv (.k (.int .i64 (-1))))⟩]) .ret)))⟩
theorem c_r06_Disk_place : compF Tryd.prog ⟨none, none⟩ Tryd.f55 = some r_r06_Disk_place := by kernel_rfl
/-- (*tenancy/tenancyref06.Disk).put -/
def r_r06_Disk_put : RF :=
  ⟨70, [], (.seq (.reg [⟨(some 3), none, (.box (some 3) (.t 1))⟩]) (.seq (.reg [⟨(some 4), none, (.mv (.k (.int .i64 0)))⟩]) (.seq (.block 0 (.loop (.seq (.seq 
  (.drw 0 [⟨⟨(some 6), none, (.mv (.t 4))⟩, .pure, [], []⟩, ⟨⟨(some 7), none, (.mv (.t 0))⟩, .pure, [], []⟩, ⟨⟨(some 8), none, (.nck (.t 7))⟩, .pure, [], []⟩, 
  ⟨⟨(some 9), none, (.off 0 (.t 8))⟩, .pure, [], []⟩, ⟨⟨(some 10), none, (.ld none (.t 9))⟩, .ld, [], []⟩, ⟨⟨(some 11), none, (.lenl (.t 10))⟩, .pure, [], []⟩, 
  ⟨⟨(some 12), none, (.bin .lss (.t 6) (.t 11))⟩, .pure, [], []⟩, ⟨⟨(some 13), none, (.mv (.t 12))⟩, .pure, [], []⟩, ⟨⟨(some 14), (some (13, true)), (.mv (.t 0))⟩, .pure, [], []⟩, 
  ⟨⟨(some 15), (some (13, true)), (.nck (.t 14))⟩, .pure, [], []⟩, ⟨⟨(some 16), (some (13, true)), (.off 0 (.t 15))⟩, .pure, [], []⟩, 
  ⟨⟨(some 17), (some (13, true)), (.ld none (.t 16))⟩, .ld, [], []⟩, ⟨⟨(some 18), (some (13, true)), (.mv (.t 4))⟩, .pure, [11], []⟩, 
  ⟨⟨(some 19), (some (13, true)), (.ixa 3 (.t 17) (.t 18))⟩, .pure, [], []⟩, ⟨⟨(some 20), (some (13, true)), (.off 0 (.t 19))⟩, .pure, [], []⟩, 
  ⟨⟨(some 21), (some (13, true)), (.ld none (.t 20))⟩, .ld, [], []⟩, ⟨⟨(some 22), (some (13, true)), (.off 0 (.t 3))⟩, .pure, [11, 15], []⟩, 
  ⟨⟨(some 23), (some (13, true)), (.ld none (.t 22))⟩, .ld, [], []⟩, ⟨⟨(some 24), (some (13, true)), (.bin .lss (.t 21) (.t 23))⟩, .pure, [], []⟩, 
  ⟨⟨(some 25), none, (.pick (.t 13) (.t 24) (.k (.bool false)))⟩, .pure, [], []⟩]) (.cond (.t 25) .skip (.exit 0))) (.block 1 (.reg [⟨(some 26), none, (.mv (.t 4))⟩, 
  ⟨(some 27), none, (.bin .add (.t 26) (.k (.int .i64 1)))⟩, ⟨(some 4), none, (.mv (.t 27))⟩]))))) (.seq (.reg [⟨(some 28), none, (.mv (.t 0))⟩, ⟨(some 29), none, (.mv (.t 0))⟩, 
  ⟨(some 30), none, (.nck (.t 29))⟩, ⟨(some 31), none, (.off 0 (.t 30))⟩, ⟨(some 32), none, (.ld none (.t 31))⟩, 
  ⟨(some 33), none, (.bld [(.str (bts [])), (.str (bts [])), (.int .i64 0)] [])⟩, 
  ⟨(some 34), none, (.bsl 3 1 [(.str (bts [])), (.str (bts [])), (.int .i64 0)] [(0, (3, (.t 33)))])⟩, ⟨(some 35), none, (.app 3 40 (.t 32) (.t 34))⟩, 
  ⟨(some 36), none, (.nck (.t 28))⟩, ⟨(some 37), none, (.off 0 (.t 36))⟩, ⟨none, none, (.st none (.t 37) (.t 35))⟩]) (.seq (.seq (.reg [⟨(some 38), none, (.mv (.t 0))⟩, 
  ⟨(some 39), none, (.nck (.t 38))⟩, ⟨(some 40), none, (.off 0 (.t 39))⟩, ⟨(some 41), none, (.ld none (.t 40))⟩, ⟨(some 42), none, (.lenl (.t 41))⟩, 
  ⟨(some 43), none, (.bin .sub (.t 42) (.k (.int .i64 1)))⟩, ⟨(some 5), none, (.mv (.t 43))⟩]) (.block 2 (.loop (.seq (.seq (.reg [⟨(some 44), none, (.mv (.t 5))⟩, 
  ⟨(some 45), none, (.mv (.t 4))⟩, ⟨(some 46), none, (.bin .gtr (.t 44) (.t 45))⟩]) (.cond (.t 46) .skip (.exit 2))) (.seq (.block 3 
  (.drw 0 [⟨⟨(some 49), none, (.mv (.t 0))⟩, .pure, [], []⟩, ⟨⟨(some 50), none, (.nck (.t 49))⟩, .pure, [], []⟩, ⟨⟨(some 51), none, (.off 0 (.t 50))⟩, .pure, [], []⟩, 
  ⟨⟨(some 52), none, (.ld none (.t 51))⟩, .ld, [], []⟩, ⟨⟨(some 53), none, (.mv (.t 5))⟩, .pure, [3], []⟩, ⟨⟨(some 54), none, (.mv (.t 0))⟩, .pure, [3], []⟩, 
  ⟨⟨(some 55), none, (.nck (.t 54))⟩, .pure, [3], []⟩, ⟨⟨(some 56), none, (.off 0 (.t 55))⟩, .pure, [3], []⟩, ⟨⟨(some 57), none, (.ld none (.t 56))⟩, .ld, [], []⟩, 
  ⟨⟨(some 58), none, (.mv (.t 5))⟩, .pure, [3, 8], []⟩, ⟨⟨(some 59), none, (.bin .sub (.t 58) (.k (.int .i64 1)))⟩, .pure, [3, 8], []⟩, 
  ⟨⟨(some 60), none, (.ixa 3 (.t 57) (.t 59))⟩, .pure, [3], []⟩, ⟨⟨(some 61), none, (.ld (some 3) (.t 60))⟩, .ld, [], []⟩, 
  ⟨⟨(some 62), none, (.ixa 3 (.t 52) (.t 53))⟩, .pure, [], []⟩, ⟨⟨none, none, (.st (some 3) (.t 62) (.t 61))⟩, .eff, [], []⟩])) (.reg [⟨(some 47), none, (.mv (.t 5))⟩, 
  ⟨(some 48), none, (.bin .sub (.t 47) (.k (.int .i64 1)))⟩, ⟨(some 5), none, (.mv (.t 48))⟩])))))) (.drw 0 [⟨⟨(some 63), none, (.mv (.t 0))⟩, .pure, [], []⟩, 
  ⟨⟨(some 64), none, (.nck (.t 63))⟩, .pure, [], []⟩, ⟨⟨(some 65), none, (.off 0 (.t 64))⟩, .pure, [], []⟩, ⟨⟨(some 66), none, (.ld none (.t 65))⟩, .ld, [], []⟩, 
  ⟨⟨(some 67), none, (.mv (.t 4))⟩, .pure, [3], []⟩, ⟨⟨(some 68), none, (.ld (some 3) (.t 3))⟩, .ld, [], []⟩, ⟨⟨(some 69), none, (.ixa 3 (.t 66) (.t 67))⟩, .pure, [], []⟩, 
  ⟨⟨none, none, (.st (some 3) (.t 69) (.t 68))⟩, .eff, [], []⟩]))))))⟩
theorem c_r06_Disk_put : compF Tryd.prog ⟨none, none⟩ Tryd.f56 = some r_r06_Disk_put := by kernel_rfl
/-- (*tenancy/tenancyref06.Disk).power -/
def r_r06_Disk_power : RF :=
  ⟨33, [(.tmp 2)], (.seq (.reg [⟨(some 2), none, (.mv (.k (.bool false)))⟩]) (.seq (.seq (.reg [⟨(some 3), none, (.mv (.t 0))⟩, ⟨(some 4), none, (.nck (.t 3))⟩, 
  ⟨(some 5), none, (.off 2 (.t 4))⟩, ⟨(some 6), none, (.ld none (.t 5))⟩, ⟨(some 7), none, (.eq false .i (.t 6) (.k (.int .i64 0)))⟩]) (.cond (.t 7) (.seq 
  (.reg [⟨(some 8), none, (.mv (.t 0))⟩, ⟨(some 9), none, (.mv (.t 0))⟩, ⟨(some 10), none, (.nck (.t 9))⟩, ⟨(some 11), none, (.off 3 (.t 10))⟩, 
  ⟨(some 12), none, (.ld none (.t 11))⟩, ⟨(some 13), none, (.call f_r06_Disk_goes [(.t 8), (.t 12)])⟩]) (.seq (.reg [⟨(some 2), none, (.mv (.k (.bool false)))⟩]) .ret)) .skip)) 
  (.seq (.seq (.reg [⟨(some 14), none, (.mv (.t 0))⟩, ⟨(some 15), none, (.nck (.t 14))⟩, ⟨(some 16), none, (.off 2 (.t 15))⟩, ⟨(some 17), none, (.ld none (.t 16))⟩, 
  ⟨(some 18), none, (.bin .gtr (.t 17) (.k (.int .i64 0)))⟩]) (.cond (.t 18) (.reg [⟨(some 19), none, (.mv (.t 0))⟩, ⟨(some 20), none, (.nck (.t 19))⟩, 
  ⟨(some 21), none, (.off 2 (.t 20))⟩, ⟨(some 22), none, (.ld none (.t 21))⟩, ⟨(some 23), none, (.bin .sub (.t 22) (.k (.int .i64 1)))⟩, ⟨(some 24), none, (.nck (.t 19))⟩, 
  ⟨(some 25), none, (.off 2 (.t 24))⟩, ⟨none, none, (.st none (.t 25) (.t 23))⟩]) .skip)) (.seq (.reg [⟨(some 26), none, (.mv (.t 0))⟩, ⟨(some 27), none, (.nck (.t 26))⟩, 
  ⟨(some 28), none, (.off 4 (.t 27))⟩, ⟨(some 29), none, (.ld none (.t 28))⟩, ⟨(some 30), none, (.bin .add (.t 29) (.k (.int .i64 1)))⟩, ⟨(some 31), none, (.nck (.t 26))⟩, 
  ⟨(some 32), none, (.off 4 (.t 31))⟩, ⟨none, none, (.st none (.t 32) (.t 30))⟩]) (.seq (.reg [⟨(some 2), none, (.mv (.k (.bool true)))⟩]) .ret)))))⟩
theorem c_r06_Disk_power : compF Tryd.prog ⟨none, none⟩ Tryd.f57 = some r_r06_Disk_power := by kernel_rfl
/-- tenancy/octet.put[uint32] -/
def r_octet_put_uint32 : RF :=
  ⟨28, [(.tmp 4)], (.seq (.reg [⟨(some 4), none, (.mv (.k (.str (bts []))))⟩]) (.seq (.reg [⟨(some 7), none, (.mv (.t 1))⟩, 
  ⟨(some 8), none, (.mks 1 1 [(.int .u8 0)] (.t 7) (.t 7))⟩, ⟨(some 5), none, (.mv (.t 8))⟩]) (.seq (.seq (.reg [⟨(some 9), none, (.mv (.t 5))⟩, ⟨(some 10), none, (.lenl (.t 9))⟩, 
  ⟨(some 11), none, (.mv (.k (.int .i64 0)))⟩]) (.block 0 (.loop (.seq (.reg [⟨(some 12), none, (.bin .lss (.t 11) (.t 10))⟩]) (.seq (.cond (.t 12) .skip (.exit 0)) (.seq (.block 1 
  (.seq (.reg [⟨(some 13), none, (.mv (.t 11))⟩, ⟨(some 6), none, (.mv (.t 13))⟩]) (.reg [⟨(some 14), none, (.mv (.t 5))⟩, ⟨(some 15), none, (.mv (.t 6))⟩, 
  ⟨(some 16), none, (.mv (.t 0))⟩, ⟨(some 17), none, (.mv (.t 1))⟩, ⟨(some 18), none, (.bin .sub (.t 17) (.k (.int .i64 1)))⟩, ⟨(some 19), none, (.mv (.t 6))⟩, 
  ⟨(some 20), none, (.bin .sub (.t 18) (.t 19))⟩, ⟨(some 21), none, (.bin .mul (.k (.int .i64 8)) (.t 20))⟩, ⟨(some 22), none, (.bin .shr (.t 16) (.t 21))⟩, 
  ⟨(some 23), none, (.cvi .u8 (.t 22))⟩, ⟨(some 24), none, (.ixa 1 (.t 14) (.t 15))⟩, ⟨none, none, (.st none (.t 24) (.t 23))⟩]))) 
  (.reg [⟨(some 25), none, (.bin .add (.t 11) (.k (.int .i64 1)))⟩, ⟨(some 11), none, (.mv (.t 25))⟩]))))))) (.seq (.reg [⟨(some 26), none, (.mv (.t 5))⟩, 
  ⟨(some 27), none, (.xt .b2s [(.t 26)])⟩, ⟨(some 4), none, (.mv (.t 27))⟩]) .ret))))⟩
theorem c_octet_put_uint32 : compF Tryd.prog ⟨none, none⟩ Tryd.f58 = some r_octet_put_uint32 := by kernel_rfl
/-- tenancy/tenancyref04.put -/
def r_r04_put : RF :=
  ⟨25, [(.tmp 4)], (.seq (.reg [⟨(some 4), none, (.mv (.k (.str (bts []))))⟩]) (.seq (.reg [⟨(some 7), none, (.bsl 1 0 [(.int .u8 0)] [])⟩, ⟨(some 5), none, (.mv (.t 7))⟩]) (.seq 
  (.seq (.reg [⟨(some 8), none, (.mv (.t 1))⟩, ⟨(some 9), none, (.bin .sub (.t 8) (.k (.int .i64 1)))⟩, ⟨(some 6), none, (.mv (.t 9))⟩]) (.block 0 (.loop (.seq (.seq 
  (.reg [⟨(some 10), none, (.mv (.t 6))⟩, ⟨(some 11), none, (.bin .geq (.t 10) (.k (.int .i64 0)))⟩]) (.cond (.t 11) .skip (.exit 0))) (.seq (.block 1 
  (.reg [⟨(some 14), none, (.mv (.t 5))⟩, ⟨(some 15), none, (.mv (.t 0))⟩, ⟨(some 16), none, (.mv (.t 6))⟩, ⟨(some 17), none, (.bin .mul (.k (.int .i64 8)) (.t 16))⟩, 
  ⟨(some 18), none, (.cvi .u64 (.t 17))⟩, ⟨(some 19), none, (.bin .shr (.t 15) (.t 18))⟩, ⟨(some 20), none, (.cvi .u8 (.t 19))⟩, 
  ⟨(some 21), none, (.bsl 1 1 [(.int .u8 0)] [(0, (1, (.t 20)))])⟩, ⟨(some 22), none, (.app 1 1 (.t 14) (.t 21))⟩, ⟨(some 5), none, (.mv (.t 22))⟩])) 
  (.reg [⟨(some 12), none, (.mv (.t 6))⟩, ⟨(some 13), none, (.bin .sub (.t 12) (.k (.int .i64 1)))⟩, ⟨(some 6), none, (.mv (.t 13))⟩])))))) (.seq 
  (.reg [⟨(some 23), none, (.mv (.t 5))⟩, ⟨(some 24), none, (.xt .b2s [(.t 23)])⟩, ⟨(some 4), none, (.mv (.t 24))⟩]) .ret))))⟩
theorem c_r04_put : compF Tryd.prog ⟨none, none⟩ Tryd.f59 = some r_r04_put := by kernel_rfl
/-- tenancy/wal.frames$1 -/
def r_wal_frames_1 : RF :=
  ⟨62, [], (.seq (.reg [⟨(some 3), none, (.mv (.k (.int .i64 0)))⟩]) (.block 0 (.loop (.block 1 (.seq (.reg [⟨(some 10), none, (.ld none (.t 1))⟩, ⟨(some 11), none, (.mv (.t 3))⟩, 
  ⟨(some 12), none, (.call f_octet_Get32 [(.t 10), (.t 11)])⟩, ⟨(some 9), none, (.mv (.t 12))⟩, ⟨(some 13), none, (.ext 0 (.t 9))⟩, ⟨(some 14), none, (.ext 1 (.t 9))⟩, 
  ⟨(some 4), none, (.mv (.t 13))⟩, ⟨(some 5), none, (.mv (.t 14))⟩]) (.seq (.reg [⟨(some 16), none, (.ld none (.t 1))⟩, ⟨(some 17), none, (.mv (.t 3))⟩, 
  ⟨(some 18), none, (.bin .add (.t 17) (.k (.int .i64 4)))⟩, ⟨(some 19), none, (.call f_octet_Get32 [(.t 16), (.t 18)])⟩, ⟨(some 15), none, (.mv (.t 19))⟩, 
  ⟨(some 20), none, (.ext 0 (.t 15))⟩, ⟨(some 21), none, (.ext 1 (.t 15))⟩, ⟨(some 6), none, (.mv (.t 20))⟩, ⟨(some 7), none, (.mv (.t 21))⟩]) (.seq (.seq 
  (.reg [⟨(some 22), none, (.mv (.t 5))⟩, ⟨(some 23), none, (.un .not (.t 22))⟩, ⟨(some 24), none, (.mv (.t 23))⟩, ⟨(some 25), (some (24, false)), (.mv (.t 7))⟩, 
  ⟨(some 26), (some (24, false)), (.un .not (.t 25))⟩, ⟨(some 27), none, (.pick (.t 24) (.k (.bool true)) (.t 26))⟩, ⟨(some 28), none, (.mv (.t 27))⟩, 
  ⟨(some 29), (some (28, false)), (.mv (.t 4))⟩, ⟨(some 30), (some (28, false)), (.cvi .i64 (.t 29))⟩, ⟨(some 31), (some (28, false)), (.call f_wal_isRecord [(.t 30)])⟩, 
  ⟨(some 32), (some (28, false)), (.un .not (.t 31))⟩, ⟨(some 33), none, (.pick (.t 28) (.k (.bool true)) (.t 32))⟩]) (.cond (.t 33) .ret .skip)) (.seq 
  (.reg [⟨(some 35), none, (.ld none (.t 1))⟩, ⟨(some 36), none, (.mv (.t 3))⟩, ⟨(some 37), none, (.bin .add (.t 36) (.k (.int .i64 8)))⟩, ⟨(some 38), none, (.mv (.t 4))⟩, 
  ⟨(some 39), none, (.cvi .i64 (.t 38))⟩, ⟨(some 40), none, (.call f_octet_Cut [(.t 35), (.t 37), (.t 39)])⟩, ⟨(some 34), none, (.mv (.t 40))⟩, ⟨(some 41), none, (.ext 0 (.t 34))⟩, 
  ⟨(some 42), none, (.ext 1 (.t 34))⟩, ⟨(some 8), none, (.mv (.t 41))⟩, ⟨(some 5), none, (.mv (.t 42))⟩]) (.seq (.seq (.reg [⟨(some 43), none, (.mv (.t 5))⟩, 
  ⟨(some 44), none, (.un .not (.t 43))⟩, ⟨(some 45), none, (.mv (.t 44))⟩, ⟨(some 46), (some (45, false)), (.mv (.t 8))⟩, 
  ⟨(some 47), (some (45, false)), (.call f_digest_CRC [(.t 46)])⟩, ⟨(some 48), (some (45, false)), (.mv (.t 6))⟩, ⟨(some 49), (some (45, false)), (.eq true .i (.t 47) (.t 48))⟩, 
  ⟨(some 50), none, (.pick (.t 45) (.k (.bool true)) (.t 49))⟩, ⟨(some 51), none, (.mv (.t 50))⟩, ⟨(some 52), (some (51, false)), (.mv (.t 0))⟩, 
  ⟨(some 53), (some (51, false)), (.mv (.t 8))⟩, ⟨(some 54), (some (51, false)), (.calld (.t 52) [(.t 53)])⟩, ⟨(some 55), (some (51, false)), (.un .not (.t 54))⟩, 
  ⟨(some 56), none, (.pick (.t 51) (.k (.bool true)) (.t 55))⟩]) (.cond (.t 56) .ret .skip)) (.reg [⟨(some 57), none, (.mv (.t 3))⟩, ⟨(some 58), none, (.mv (.t 8))⟩, 
  ⟨(some 59), none, (.lens (.t 58))⟩, ⟨(some 60), none, (.bin .add (.k (.int .i64 8)) (.t 59))⟩, ⟨(some 61), none, (.bin .add (.t 57) (.t 60))⟩, 
  ⟨(some 3), none, (.mv (.t 61))⟩]))))))))))⟩
theorem c_wal_frames_1 : compF Tryd.prog ⟨none, none⟩ Tryd.f60 = some r_wal_frames_1 := by kernel_rfl
/-- tenancy/octet.Get32 -/
def r_octet_Get32 : RF :=
  ⟨11, [(.tmp 4), (.tmp 5)], (.seq (.reg [⟨(some 4), none, (.mv (.k (.int .u32 0)))⟩, ⟨(some 5), none, (.mv (.k (.bool false)))⟩]) (.seq (.reg [⟨(some 6), none, (.mv (.t 0))⟩, 
  ⟨(some 7), none, (.mv (.t 1))⟩, ⟨(some 8), none, (.call f_octet_get_uint32 [(.t 6), (.t 7), (.k (.int .i64 4))])⟩, ⟨(some 9), none, (.ext 0 (.t 8))⟩, 
  ⟨(some 10), none, (.ext 1 (.t 8))⟩, ⟨(some 4), none, (.mv (.t 9))⟩, ⟨(some 5), none, (.mv (.t 10))⟩]) .ret))⟩
theorem c_octet_Get32 : compF Tryd.prog ⟨none, none⟩ Tryd.f61 = some r_octet_Get32 := by kernel_rfl
/-- tenancy/octet.Cut -/
def r_octet_Cut : RF :=
  ⟨31, [(.tmp 6), (.tmp 7)], (.seq (.reg [⟨(some 6), none, (.mv (.k (.str (bts []))))⟩, ⟨(some 7), none, (.mv (.k (.bool false)))⟩]) (.seq (.seq 
  (.reg [⟨(some 8), none, (.mv (.t 1))⟩, ⟨(some 9), none, (.mv (.t 2))⟩, ⟨(some 10), none, (.xp .mn [(.t 8), (.t 9)])⟩, ⟨(some 11), none, (.bin .lss (.t 10) (.k (.int .i64 0)))⟩, 
  ⟨(some 12), none, (.mv (.t 11))⟩, ⟨(some 13), (some (12, false)), (.mv (.t 1))⟩, ⟨(some 14), (some (12, false)), (.mv (.t 0))⟩, ⟨(some 15), (some (12, false)), (.lens (.t 14))⟩, 
  ⟨(some 16), (some (12, false)), (.bin .gtr (.t 13) (.t 15))⟩, ⟨(some 17), none, (.pick (.t 12) (.k (.bool true)) (.t 16))⟩, ⟨(some 18), none, (.mv (.t 17))⟩, 
  ⟨(some 19), (some (18, false)), (.mv (.t 2))⟩, ⟨(some 20), (some (18, false)), (.mv (.t 0))⟩, ⟨(some 21), (some (18, false)), (.lens (.t 20))⟩, 
  ⟨(some 22), (some (18, false)), (.mv (.t 1))⟩, ⟨(some 23), (some (18, false)), (.bin .sub (.t 21) (.t 22))⟩, ⟨(some 24), (some (18, false)), (.bin .gtr (.t 19) (.t 23))⟩, 
  ⟨(some 25), none, (.pick (.t 18) (.k (.bool true)) (.t 24))⟩]) (.cond (.t 25) (.seq (.reg [⟨(some 6), none, (.mv (.k (.str (bts []))))⟩, 
  ⟨(some 7), none, (.mv (.k (.bool false)))⟩]) .ret) .skip)) (.seq (.reg [⟨(some 26), none, (.mv (.t 0))⟩, ⟨(some 27), none, (.mv (.t 1))⟩, 
  ⟨(some 28), none, (.sls (.t 26) (some (.t 27)) none)⟩, ⟨(some 29), none, (.mv (.t 2))⟩, ⟨(some 30), none, (.sls (.t 28) none (some (.t 29)))⟩, ⟨(some 6), none, (.mv (.t 30))⟩, 
  ⟨(some 7), none, (.mv (.k (.bool true)))⟩]) .ret)))⟩
theorem c_octet_Cut : compF Tryd.prog ⟨none, none⟩ Tryd.f62 = some r_octet_Cut := by kernel_rfl
/-- tenancy/tenancyref04.Get32 -/
def r_r04_Get32 : RF :=
  ⟨17, [(.tmp 4), (.tmp 5)], (.seq (.reg [⟨(some 4), none, (.mv (.k (.int .u32 0)))⟩, ⟨(some 5), none, (.mv (.k (.bool false)))⟩]) (.seq (.reg [⟨(some 9), none, (.mv (.t 0))⟩, 
  ⟨(some 10), none, (.mv (.t 1))⟩, ⟨(some 11), none, (.call f_r04_get [(.t 9), (.t 10), (.k (.int .i64 4))])⟩, ⟨(some 8), none, (.mv (.t 11))⟩, ⟨(some 12), none, (.ext 0 (.t 8))⟩, 
  ⟨(some 13), none, (.ext 1 (.t 8))⟩, ⟨(some 6), none, (.mv (.t 12))⟩, ⟨(some 7), none, (.mv (.t 13))⟩]) (.seq (.reg [⟨(some 14), none, (.mv (.t 6))⟩, 
  ⟨(some 15), none, (.cvi .u32 (.t 14))⟩, ⟨(some 16), none, (.mv (.t 7))⟩, ⟨(some 4), none, (.mv (.t 15))⟩, ⟨(some 5), none, (.mv (.t 16))⟩]) .ret)))⟩
theorem c_r04_Get32 : compF Tryd.prog ⟨none, none⟩ Tryd.f63 = some r_r04_Get32 := by kernel_rfl
/-- tenancy/tenancyref04.Cut -/
def r_r04_Cut : RF :=
  ⟨34, [(.tmp 6), (.tmp 7)], (.seq (.reg [⟨(some 6), none, (.mv (.k (.str (bts []))))⟩, ⟨(some 7), none, (.mv (.k (.bool false)))⟩]) (.seq (.seq 
  (.reg [⟨(some 8), none, (.mv (.t 1))⟩, ⟨(some 9), none, (.bin .lss (.t 8) (.k (.int .i64 0)))⟩, ⟨(some 10), none, (.mv (.t 9))⟩, ⟨(some 11), (some (10, false)), (.mv (.t 2))⟩, 
  ⟨(some 12), (some (10, false)), (.bin .lss (.t 11) (.k (.int .i64 0)))⟩, ⟨(some 13), none, (.pick (.t 10) (.k (.bool true)) (.t 12))⟩, ⟨(some 14), none, (.mv (.t 13))⟩, 
  ⟨(some 15), (some (14, false)), (.mv (.t 1))⟩, ⟨(some 16), (some (14, false)), (.mv (.t 0))⟩, ⟨(some 17), (some (14, false)), (.lens (.t 16))⟩, 
  ⟨(some 18), (some (14, false)), (.bin .gtr (.t 15) (.t 17))⟩, ⟨(some 19), none, (.pick (.t 14) (.k (.bool true)) (.t 18))⟩, ⟨(some 20), none, (.mv (.t 19))⟩, 
  ⟨(some 21), (some (20, false)), (.mv (.t 2))⟩, ⟨(some 22), (some (20, false)), (.mv (.t 0))⟩, ⟨(some 23), (some (20, false)), (.lens (.t 22))⟩, 
  ⟨(some 24), (some (20, false)), (.mv (.t 1))⟩, ⟨(some 25), (some (20, false)), (.bin .sub (.t 23) (.t 24))⟩, ⟨(some 26), (some (20, false)), (.bin .gtr (.t 21) (.t 25))⟩, 
  ⟨(some 27), none, (.pick (.t 20) (.k (.bool true)) (.t 26))⟩]) (.cond (.t 27) (.seq (.reg [⟨(some 6), none, (.mv (.k (.str (bts []))))⟩, 
  ⟨(some 7), none, (.mv (.k (.bool false)))⟩]) .ret) .skip)) (.seq (.reg [⟨(some 28), none, (.mv (.t 0))⟩, ⟨(some 29), none, (.mv (.t 1))⟩, ⟨(some 30), none, (.mv (.t 1))⟩, 
  ⟨(some 31), none, (.mv (.t 2))⟩, ⟨(some 32), none, (.bin .add (.t 30) (.t 31))⟩, ⟨(some 33), none, (.sls (.t 28) (some (.t 29)) (some (.t 32)))⟩, ⟨(some 6), none, (.mv (.t 33))⟩, 
  ⟨(some 7), none, (.mv (.k (.bool true)))⟩]) .ret)))⟩
theorem c_r04_Cut : compF Tryd.prog ⟨none, none⟩ Tryd.f64 = some r_r04_Cut := by kernel_rfl
/-- (*tenancy/files.Disk).check -/
def r_files_Disk_check : RF :=
  ⟨23, [(.tmp 4)], (.seq (.reg [⟨(some 4), none, (.mv (.k (.int .i64 0)))⟩]) (.seq (.seq (.reg [⟨(some 7), none, (.mv (.t 0))⟩, ⟨(some 8), none, (.eq false .p (.t 7) (.k .nilp))⟩]) 
  (.cond (.t 8) (.seq (.reg [⟨(some 4), none, (.mv (.k (.int .i64 2)))⟩]) .ret) .skip)) (.seq (.seq (.reg [⟨(some 9), none, (.mv (.t 0))⟩, ⟨(some 10), none, (.nck (.t 9))⟩, 
  ⟨(some 11), none, (.off 1 (.t 10))⟩, ⟨(some 12), none, (.ld none (.t 11))⟩]) (.cond (.t 12) (.seq (.reg [⟨(some 4), none, (.mv (.k (.int .i64 60)))⟩]) .ret) .skip)) (.seq (.seq 
  (.reg [⟨(some 13), none, (.mv (.t 1))⟩, ⟨(some 14), none, (.lenl (.t 13))⟩, ⟨(some 15), none, (.mv (.k (.int .i64 0)))⟩]) (.block 0 (.loop (.seq 
  (.reg [⟨(some 16), none, (.bin .lss (.t 15) (.t 14))⟩]) (.seq (.cond (.t 16) .skip (.exit 0)) (.seq (.block 1 (.seq (.reg [⟨(some 17), none, (.ixa 1 (.t 13) (.t 15))⟩, 
  ⟨(some 18), none, (.ld none (.t 17))⟩, ⟨(some 6), none, (.mv (.t 18))⟩]) (.seq (.reg [⟨(some 19), none, (.mv (.t 6))⟩, ⟨(some 20), none, (.call f_files_isName [(.t 19)])⟩, 
  ⟨(some 21), none, (.un .not (.t 20))⟩]) (.cond (.t 21) (.seq (.reg [⟨(some 4), none, (.mv (.k (.int .i64 61)))⟩]) .ret) .skip)))) 
  (.reg [⟨(some 22), none, (.bin .add (.t 15) (.k (.int .i64 1)))⟩, ⟨(some 15), none, (.mv (.t 22))⟩]))))))) (.seq (.reg [⟨(some 4), none, (.mv (.k (.int .i64 0)))⟩]) .ret)))))⟩
theorem c_files_Disk_check : compF Tryd.prog ⟨none, none⟩ Tryd.f65 = some r_files_Disk_check := by kernel_rfl
/-- tenancy/tenancyref06.Name -/
def r_r06_Name : RF :=
  ⟨45, [(.tmp 2)], (.seq (.reg [⟨(some 2), none, (.mv (.k (.bool false)))⟩]) (.seq (.seq (.reg [⟨(some 5), none, (.mv (.t 0))⟩, ⟨(some 6), none, (.lens (.t 5))⟩, 
  ⟨(some 7), none, (.bin .lss (.t 6) (.k (.int .i64 1)))⟩, ⟨(some 8), none, (.mv (.t 7))⟩, ⟨(some 9), (some (8, false)), (.mv (.t 0))⟩, 
  ⟨(some 10), (some (8, false)), (.lens (.t 9))⟩, ⟨(some 11), (some (8, false)), (.bin .gtr (.t 10) (.k (.int .i64 32)))⟩, 
  ⟨(some 12), none, (.pick (.t 8) (.k (.bool true)) (.t 11))⟩]) (.cond (.t 12) (.seq (.reg [⟨(some 2), none, (.mv (.k (.bool false)))⟩]) .ret) .skip)) (.seq (.seq 
  (.reg [⟨(some 3), none, (.mv (.k (.int .i64 0)))⟩]) (.block 0 (.loop (.seq (.seq (.reg [⟨(some 13), none, (.mv (.t 3))⟩, ⟨(some 14), none, (.mv (.t 0))⟩, 
  ⟨(some 15), none, (.lens (.t 14))⟩, ⟨(some 16), none, (.bin .lss (.t 13) (.t 15))⟩]) (.cond (.t 16) .skip (.exit 0))) (.seq (.block 1 (.seq (.reg [⟨(some 19), none, (.mv (.t 0))⟩, 
  ⟨(some 20), none, (.mv (.t 3))⟩, ⟨(some 21), none, (.ixs (.t 19) (.t 20))⟩, ⟨(some 4), none, (.mv (.t 21))⟩]) (.seq (.reg [⟨(some 22), none, (.mv (.t 4))⟩, 
  ⟨(some 23), none, (.bin .geq (.t 22) (.k (.int .u8 97)))⟩, ⟨(some 24), none, (.mv (.t 23))⟩, ⟨(some 25), (some (24, true)), (.mv (.t 4))⟩, 
  ⟨(some 26), (some (24, true)), (.bin .leq (.t 25) (.k (.int .u8 122)))⟩, ⟨(some 27), none, (.pick (.t 24) (.t 26) (.k (.bool false)))⟩, ⟨(some 28), none, (.mv (.t 27))⟩, 
  ⟨(some 29), (some (28, false)), (.mv (.t 4))⟩, ⟨(some 30), (some (28, false)), (.bin .geq (.t 29) (.k (.int .u8 48)))⟩, ⟨(some 31), (some (28, false)), (.mv (.t 30))⟩, 
  ⟨(some 32), (some (31, true)), (.mv (.t 4))⟩, ⟨(some 33), (some (31, true)), (.bin .leq (.t 32) (.k (.int .u8 57)))⟩, 
  ⟨(some 34), (some (28, false)), (.pick (.t 31) (.t 33) (.k (.bool false)))⟩, ⟨(some 35), none, (.pick (.t 28) (.k (.bool true)) (.t 34))⟩, ⟨(some 36), none, (.mv (.t 35))⟩, 
  ⟨(some 37), (some (36, false)), (.mv (.t 4))⟩, ⟨(some 38), (some (36, false)), (.eq false .i (.t 37) (.k (.int .u8 46)))⟩, 
  ⟨(some 39), none, (.pick (.t 36) (.k (.bool true)) (.t 38))⟩, ⟨(some 40), none, (.mv (.t 39))⟩, ⟨(some 41), (some (40, false)), (.mv (.t 4))⟩, 
  ⟨(some 42), (some (40, false)), (.eq false .i (.t 41) (.k (.int .u8 45)))⟩, ⟨(some 43), none, (.pick (.t 40) (.k (.bool true)) (.t 42))⟩, ⟨(some 44), none, (.un .not (.t 43))⟩]) 
  (.cond (.t 44) (.seq (.reg [⟨(some 2), none, (.mv (.k (.bool false)))⟩]) .ret) .skip)))) (.reg [⟨(some 17), none, (.mv (.t 3))⟩, 
  ⟨(some 18), none, (.bin .add (.t 17) (.k (.int .i64 1)))⟩, ⟨(some 3), none, (.mv (.t 18))⟩])))))) (.seq (.reg [⟨(some 2), none, (.mv (.k (.bool true)))⟩]) .ret))))⟩
theorem c_r06_Name : compF Tryd.prog ⟨none, none⟩ Tryd.f66 = some r_r06_Name := by kernel_rfl
/-- tenancy/octet.get[uint32] -/
def r_octet_get_uint32 : RF :=
  ⟨35, [(.tmp 6), (.tmp 7)], (.seq (.reg [⟨(some 6), none, (.mv (.k (.int .u32 0)))⟩, ⟨(some 7), none, (.mv (.k (.bool false)))⟩]) (.seq (.reg [⟨(some 14), none, (.mv (.t 0))⟩, 
  ⟨(some 15), none, (.mv (.t 1))⟩, ⟨(some 16), none, (.mv (.t 2))⟩, ⟨(some 17), none, (.call f_octet_Cut [(.t 14), (.t 15), (.t 16)])⟩, ⟨(some 13), none, (.mv (.t 17))⟩, 
  ⟨(some 18), none, (.ext 0 (.t 13))⟩, ⟨(some 19), none, (.ext 1 (.t 13))⟩, ⟨(some 8), none, (.mv (.t 18))⟩, ⟨(some 9), none, (.mv (.t 19))⟩]) (.seq 
  (.reg [⟨(some 10), none, (.mv (.k (.int .u32 0)))⟩]) (.seq (.seq (.reg [⟨(some 20), none, (.mv (.t 8))⟩, ⟨(some 21), none, (.xt .s2b [(.t 20)])⟩, 
  ⟨(some 22), none, (.lenl (.t 21))⟩, ⟨(some 23), none, (.mv (.k (.int .i64 0)))⟩]) (.block 0 (.loop (.seq (.reg [⟨(some 24), none, (.bin .lss (.t 23) (.t 22))⟩]) (.seq 
  (.cond (.t 24) .skip (.exit 0)) (.seq (.block 1 (.seq (.reg [⟨(some 25), none, (.ixa 1 (.t 21) (.t 23))⟩, ⟨(some 26), none, (.ld none (.t 25))⟩, ⟨(some 12), none, (.mv (.t 26))⟩]) 
  (.reg [⟨(some 27), none, (.mv (.t 10))⟩, ⟨(some 28), none, (.bin .shl (.t 27) (.k (.int .u64 8)))⟩, ⟨(some 29), none, (.mv (.t 12))⟩, ⟨(some 30), none, (.cvi .u32 (.t 29))⟩, 
  ⟨(some 31), none, (.bin .or (.t 28) (.t 30))⟩, ⟨(some 10), none, (.mv (.t 31))⟩]))) (.reg [⟨(some 32), none, (.bin .add (.t 23) (.k (.int .i64 1)))⟩, 
  ⟨(some 23), none, (.mv (.t 32))⟩]))))))) (.seq (.reg [⟨(some 33), none, (.mv (.t 10))⟩, ⟨(some 34), none, (.mv (.t 9))⟩, ⟨(some 6), none, (.mv (.t 33))⟩, 
  ⟨(some 7), none, (.mv (.t 34))⟩]) .ret)))))⟩
theorem c_octet_get_uint32 : compF Tryd.prog ⟨none, none⟩ Tryd.f67 = some r_octet_get_uint32 := by kernel_rfl
/-- tenancy/tenancyref04.get -/
def r_r04_get : RF :=
  ⟨34, [(.tmp 6), (.tmp 7)], (.seq (.reg [⟨(some 6), none, (.mv (.k (.int .u64 0)))⟩, ⟨(some 7), none, (.mv (.k (.bool false)))⟩]) (.seq (.reg [⟨(some 13), none, (.mv (.t 0))⟩, 
  ⟨(some 14), none, (.mv (.t 1))⟩, ⟨(some 15), none, (.mv (.t 2))⟩, ⟨(some 16), none, (.call f_r04_Cut [(.t 13), (.t 14), (.t 15)])⟩, ⟨(some 12), none, (.mv (.t 16))⟩, 
  ⟨(some 17), none, (.ext 0 (.t 12))⟩, ⟨(some 18), none, (.ext 1 (.t 12))⟩, ⟨(some 8), none, (.mv (.t 17))⟩, ⟨(some 9), none, (.mv (.t 18))⟩]) (.seq 
  (.reg [⟨(some 10), none, (.mv (.k (.int .u64 0)))⟩]) (.seq (.seq (.reg [⟨(some 11), none, (.mv (.k (.int .i64 0)))⟩]) (.block 0 (.loop (.seq (.seq 
  (.reg [⟨(some 19), none, (.mv (.t 11))⟩, ⟨(some 20), none, (.mv (.t 8))⟩, ⟨(some 21), none, (.lens (.t 20))⟩, ⟨(some 22), none, (.bin .lss (.t 19) (.t 21))⟩]) 
  (.cond (.t 22) .skip (.exit 0))) (.seq (.block 1 (.reg [⟨(some 25), none, (.mv (.t 10))⟩, ⟨(some 26), none, (.bin .mul (.t 25) (.k (.int .u64 256)))⟩, 
  ⟨(some 27), none, (.mv (.t 8))⟩, ⟨(some 28), none, (.mv (.t 11))⟩, ⟨(some 29), none, (.ixs (.t 27) (.t 28))⟩, ⟨(some 30), none, (.cvi .u64 (.t 29))⟩, 
  ⟨(some 31), none, (.bin .add (.t 26) (.t 30))⟩, ⟨(some 10), none, (.mv (.t 31))⟩])) (.reg [⟨(some 23), none, (.mv (.t 11))⟩, 
  ⟨(some 24), none, (.bin .add (.t 23) (.k (.int .i64 1)))⟩, ⟨(some 11), none, (.mv (.t 24))⟩])))))) (.seq (.reg [⟨(some 32), none, (.mv (.t 10))⟩, ⟨(some 33), none, (.mv (.t 9))⟩, 
  ⟨(some 6), none, (.mv (.t 32))⟩, ⟨(some 7), none, (.mv (.t 33))⟩]) .ret)))))⟩
theorem c_r04_get : compF Tryd.prog ⟨none, none⟩ Tryd.f68 = some r_r04_get := by kernel_rfl
/-- tenancy/files.isName -/
def r_files_isName : RF :=
  ⟨15, [(.tmp 2)], (.seq (.reg [⟨(some 2), none, (.mv (.k (.bool false)))⟩]) (.seq (.reg [⟨(some 3), none, (.mv (.t 0))⟩, 
  ⟨(some 4), none, (.eq true .s (.t 3) (.k (.str (bts []))))⟩, ⟨(some 5), none, (.mv (.t 4))⟩, ⟨(some 6), (some (5, true)), (.mv (.t 0))⟩, 
  ⟨(some 7), (some (5, true)), (.lens (.t 6))⟩, ⟨(some 8), (some (5, true)), (.bin .leq (.t 7) (.k (.int .i64 32)))⟩, ⟨(some 9), none, (.pick (.t 5) (.t 8) (.k (.bool false)))⟩, 
  ⟨(some 10), none, (.mv (.t 9))⟩, ⟨(some 11), (some (10, true)), (.mv (.t 0))⟩, 
  ⟨(some 12), (some (10, true)), (.call f_strings_Trim [(.t 11), (.k (.str (bts [97, 98, 99, 100, 101, 102, 103, 104, 105, 106, 107, 108, 109, 110, 111, 112, 113, 114, 115, 116, 117, 118, 119, 120, 121, 122, 48, 49, 50, 51, 52, 53, 54, 55, 56, 57, 46, 45])))])⟩, 
  ⟨(some 13), (some (10, true)), (.eq false .s (.t 12) (.k (.str (bts []))))⟩, ⟨(some 14), none, (.pick (.t 10) (.t 13) (.k (.bool false)))⟩, 
  ⟨(some 2), none, (.mv (.t 14))⟩]) .ret))⟩
theorem c_files_isName : compF Tryd.prog ⟨none, none⟩ Tryd.f69 = some r_files_isName := by kernel_rfl
/-- strings.Trim -/
def r_strings_Trim : RF :=
  ⟨43, [(.tmp 4)], (.seq (.reg [⟨(some 4), none, (.mv (.k (.str (bts []))))⟩]) (.seq (.seq (.reg [⟨(some 7), none, (.mv (.t 0))⟩, 
  ⟨(some 8), none, (.eq false .s (.t 7) (.k (.str (bts []))))⟩, ⟨(some 9), none, (.mv (.t 8))⟩, ⟨(some 10), (some (9, false)), (.mv (.t 1))⟩, 
  ⟨(some 11), (some (9, false)), (.eq false .s (.t 10) (.k (.str (bts []))))⟩, ⟨(some 12), none, (.pick (.t 9) (.k (.bool true)) (.t 11))⟩]) (.cond (.t 12) (.seq 
  (.reg [⟨(some 13), none, (.mv (.t 0))⟩, ⟨(some 4), none, (.mv (.t 13))⟩]) .ret) .skip)) (.seq (.seq (.reg [⟨(some 14), none, (.mv (.t 1))⟩, ⟨(some 15), none, (.lens (.t 14))⟩, 
  ⟨(some 16), none, (.eq false .i (.t 15) (.k (.int .i64 1)))⟩, ⟨(some 17), none, (.mv (.t 16))⟩, ⟨(some 18), (some (17, true)), (.mv (.t 1))⟩, 
  ⟨(some 19), (some (17, true)), (.ixs (.t 18) (.k (.int .i64 0)))⟩, ⟨(some 20), (some (17, true)), (.bin .lss (.t 19) (.k (.int .u8 128)))⟩, 
  ⟨(some 21), none, (.pick (.t 17) (.t 20) (.k (.bool false)))⟩]) (.cond (.t 21) (.seq (.drw 0 [⟨⟨(some 22), none, (.mv (.t 0))⟩, .pure, [], []⟩, 
  ⟨⟨(some 23), none, (.mv (.t 1))⟩, .pure, [], []⟩, ⟨⟨(some 24), none, (.ixs (.t 23) (.k (.int .i64 0)))⟩, .pure, [], []⟩, 
  ⟨⟨(some 25), none, (.call f_strings_trimRightByte [(.t 22), (.t 24)])⟩, .eff, [], []⟩, ⟨⟨(some 26), none, (.mv (.t 1))⟩, .pure, [], []⟩, 
  ⟨⟨(some 27), none, (.ixs (.t 26) (.k (.int .i64 0)))⟩, .pure, [], []⟩, ⟨⟨(some 28), none, (.call f_strings_trimLeftByte [(.t 25), (.t 27)])⟩, .eff, [], []⟩, 
  ⟨⟨(some 4), none, (.mv (.t 28))⟩, .pure, [], []⟩]) .ret) .skip)) (.seq (.seq (.reg [⟨(some 30), none, (.mv (.t 1))⟩, ⟨(some 31), none, (.call f_strings_makeASCIISet [(.t 30)])⟩, 
  ⟨(some 29), none, (.mv (.t 31))⟩, ⟨(some 32), none, (.ext 0 (.t 29))⟩, ⟨(some 33), none, (.ext 1 (.t 29))⟩, 
  ⟨(some 5), none, (.new [(.bool false), (.bool false), (.bool false), (.bool false), (.bool false), (.bool false), (.bool false), (.bool false), (.bool false), (.bool false), (.bool false), (.bool false), (.bool false), (.bool false), (.bool false), (.bool false), (.bool false), (.bool false), (.bool false), (.bool false), (.bool false), (.bool false), (.bool false), (.bool false), (.bool false), (.bool false), (.bool false), (.bool false), (.bool false), (.bool false), (.bool false), (.bool false), (.bool false), (.bool false), (.bool false), (.bool false), (.bool false), (.bool false), (.bool false), (.bool false), (.bool false), (.bool false), (.bool false), (.bool false), (.bool false), (.bool false), (.bool false), (.bool false), (.bool false), (.bool false), (.bool false), (.bool false), (.bool false), (.bool false), (.bool false), (.bool false), (.bool false), (.bool false), (.bool false), (.bool false), (.bool false), (.bool false), (.bool false), (.bool false), (.bool false), (.bool false), (.bool false), (.bool false), (.bool false), (.bool false), (.bool false), (.bool false), (.bool false), (.bool false), (.bool false), (.bool false), (.bool false), (.bool false), (.bool false), (.bool false), (.bool false), (.bool false), (.bool false), (.bool false), (.bool false), (.bool false), (.bool false), (.bool false), (.bool false), (.bool false), (.bool false), (.bool false), (.bool false), (.bool false), (.bool false), (.bool false), (.bool false), (.bool false), (.bool false), (.bool false), (.bool false), (.bool false), (.bool false), (.bool false), (.bool false), (.bool false), (.bool false), (.bool false), (.bool false), (.bool false), (.bool false), (.bool false), (.bool false), (.bool false), (.bool false), (.bool false), (.bool false), (.bool false), (.bool false), (.bool false), (.bool false), (.bool false), (.bool false), (.bool false), (.bool false), (.bool false), (.bool false), (.bool false), (.bool false), (.bool false), (.bool false), (.bool false), (.bool false), (.bool false), (.bool false), (.bool false), (.bool false), (.bool false), (.bool false), (.bool false), (.bool false), (.bool false), (.bool false), (.bool false), (.bool false), (.bool false), (.bool false), (.bool false), (.bool false), (.bool false), (.bool false), (.bool false), (.bool false), (.bool false), (.bool false), (.bool false), (.bool false), (.bool false), (.bool false), (.bool false), (.bool false), (.bool false), (.bool false), (.bool false), (.bool false), (.bool false), (.bool false), (.bool false), (.bool false), (.bool false), (.bool false), (.bool false), (.bool false), (.bool false), (.bool false), (.bool false), (.bool false), (.bool false), (.bool false), (.bool false), (.bool false), (.bool false), (.bool false), (.bool false), (.bool false), (.bool false), (.bool false), (.bool false), (.bool false), (.bool false), (.bool false), (.bool false), (.bool false), (.bool false), (.bool false), (.bool false), (.bool false), (.bool false), (.bool false), (.bool false), (.bool false), (.bool false), (.bool false), (.bool false), (.bool false), (.bool false), (.bool false), (.bool false), (.bool false), (.bool false), (.bool false), (.bool false), (.bool false), (.bool false), (.bool false), (.bool false), (.bool false), (.bool false), (.bool false), (.bool false), (.bool false), (.bool false), (.bool false), (.bool false), (.bool false), (.bool false), (.bool false), (.bool false), (.bool false), (.bool false), (.bool false), (.bool false), (.bool false), (.bool false), (.bool false), (.bool false), (.bool false), (.bool false), (.bool false), (.bool false), (.bool false), (.bool false), (.bool false), (.bool false), (.bool false), (.bool false), (.bool false), (.bool false), (.bool false), (.bool false), (.bool false), (.bool false), (.bool false), (.bool false), (.bool false), (.bool false)])⟩, 
  ⟨none, none, (.st (some 256) (.t 5) (.t 32))⟩, ⟨(some 6), none, (.mv (.t 33))⟩]) (.seq (.reg [⟨(some 34), none, (.mv (.t 6))⟩]) (.cond (.t 34) (.seq 
  (.reg [⟨(some 35), none, (.mv (.t 0))⟩, ⟨(some 36), none, (.call f_strings_trimRightASCII [(.t 35), (.t 5)])⟩, 
  ⟨(some 37), none, (.call f_strings_trimLeftASCII [(.t 36), (.t 5)])⟩, ⟨(some 4), none, (.mv (.t 37))⟩]) .ret) .skip))) (.seq (.reg [⟨(some 38), none, (.mv (.t 0))⟩, 
  ⟨(some 39), none, (.mv (.t 1))⟩, ⟨(some 40), none, (.call f_strings_trimRightUnicode [(.t 38), (.t 39)])⟩, ⟨(some 41), none, (.mv (.t 1))⟩, 
  ⟨(some 42), none, (.call f_strings_trimLeftUnicode [(.t 40), (.t 41)])⟩, ⟨(some 4), none, (.mv (.t 42))⟩]) .ret)))))⟩
theorem c_strings_Trim : compF Tryd.prog ⟨none, none⟩ Tryd.f70 = some r_strings_Trim := by kernel_rfl
/-- strings.trimLeftByte -/
def r_strings_trimLeftByte : RF :=
  ⟨17, [(.tmp 4)], (.seq (.reg [⟨(some 4), none, (.mv (.k (.str (bts []))))⟩]) (.seq (.block 0 (.loop (.seq (.seq (.reg [⟨(some 5), none, (.mv (.t 0))⟩, 
  ⟨(some 6), none, (.lens (.t 5))⟩, ⟨(some 7), none, (.bin .gtr (.t 6) (.k (.int .i64 0)))⟩, ⟨(some 8), none, (.mv (.t 7))⟩, ⟨(some 9), (some (8, true)), (.mv (.t 0))⟩, 
  ⟨(some 10), (some (8, true)), (.ixs (.t 9) (.k (.int .i64 0)))⟩, ⟨(some 11), (some (8, true)), (.mv (.t 1))⟩, ⟨(some 12), (some (8, true)), (.eq false .i (.t 10) (.t 11))⟩, 
  ⟨(some 13), none, (.pick (.t 8) (.t 12) (.k (.bool false)))⟩]) (.cond (.t 13) .skip (.exit 0))) (.block 1 (.reg [⟨(some 14), none, (.mv (.t 0))⟩, 
  ⟨(some 15), none, (.sls (.t 14) (some (.k (.int .i64 1))) none)⟩, ⟨(some 0), none, (.mv (.t 15))⟩]))))) (.seq (.reg [⟨(some 16), none, (.mv (.t 0))⟩, 
  ⟨(some 4), none, (.mv (.t 16))⟩]) .ret)))⟩
theorem c_strings_trimLeftByte : compF Tryd.prog ⟨none, none⟩ Tryd.f71 = some r_strings_trimLeftByte := by kernel_rfl
/-- strings.trimRightByte -/
def r_strings_trimRightByte : RF :=
  ⟨23, [(.tmp 4)], (.seq (.reg [⟨(some 4), none, (.mv (.k (.str (bts []))))⟩]) (.seq (.block 0 (.loop (.seq (.seq (.reg [⟨(some 5), none, (.mv (.t 0))⟩, 
  ⟨(some 6), none, (.lens (.t 5))⟩, ⟨(some 7), none, (.bin .gtr (.t 6) (.k (.int .i64 0)))⟩, ⟨(some 8), none, (.mv (.t 7))⟩, ⟨(some 9), (some (8, true)), (.mv (.t 0))⟩, 
  ⟨(some 10), (some (8, true)), (.mv (.t 0))⟩, ⟨(some 11), (some (8, true)), (.lens (.t 10))⟩, ⟨(some 12), (some (8, true)), (.bin .sub (.t 11) (.k (.int .i64 1)))⟩, 
  ⟨(some 13), (some (8, true)), (.ixs (.t 9) (.t 12))⟩, ⟨(some 14), (some (8, true)), (.mv (.t 1))⟩, ⟨(some 15), (some (8, true)), (.eq false .i (.t 13) (.t 14))⟩, 
  ⟨(some 16), none, (.pick (.t 8) (.t 15) (.k (.bool false)))⟩]) (.cond (.t 16) .skip (.exit 0))) (.block 1 (.reg [⟨(some 17), none, (.mv (.t 0))⟩, ⟨(some 18), none, (.mv (.t 0))⟩, 
  ⟨(some 19), none, (.lens (.t 18))⟩, ⟨(some 20), none, (.bin .sub (.t 19) (.k (.int .i64 1)))⟩, ⟨(some 21), none, (.sls (.t 17) none (some (.t 20)))⟩, 
  ⟨(some 0), none, (.mv (.t 21))⟩]))))) (.seq (.reg [⟨(some 22), none, (.mv (.t 0))⟩, ⟨(some 4), none, (.mv (.t 22))⟩]) .ret)))⟩
theorem c_strings_trimRightByte : compF Tryd.prog ⟨none, none⟩ Tryd.f72 = some r_strings_trimRightByte := by kernel_rfl
/-- strings.makeASCIISet -/
def r_strings_makeASCIISet : RF :=
  ⟨21, [(.cell (some 256) 2), (.tmp 3)], (.seq 
  (.reg [⟨(some 2), none, (.new [(.bool false), (.bool false), (.bool false), (.bool false), (.bool false), (.bool false), (.bool false), (.bool false), (.bool false), (.bool false), (.bool false), (.bool false), (.bool false), (.bool false), (.bool false), (.bool false), (.bool false), (.bool false), (.bool false), (.bool false), (.bool false), (.bool false), (.bool false), (.bool false), (.bool false), (.bool false), (.bool false), (.bool false), (.bool false), (.bool false), (.bool false), (.bool false), (.bool false), (.bool false), (.bool false), (.bool false), (.bool false), (.bool false), (.bool false), (.bool false), (.bool false), (.bool false), (.bool false), (.bool false), (.bool false), (.bool false), (.bool false), (.bool false), (.bool false), (.bool false), (.bool false), (.bool false), (.bool false), (.bool false), (.bool false), (.bool false), (.bool false), (.bool false), (.bool false), (.bool false), (.bool false), (.bool false), (.bool false), (.bool false), (.bool false), (.bool false), (.bool false), (.bool false), (.bool false), (.bool false), (.bool false), (.bool false), (.bool false), (.bool false), (.bool false), (.bool false), (.bool false), (.bool false), (.bool false), (.bool false), (.bool false), (.bool false), (.bool false), (.bool false), (.bool false), (.bool false), (.bool false), (.bool false), (.bool false), (.bool false), (.bool false), (.bool false), (.bool false), (.bool false), (.bool false), (.bool false), (.bool false), (.bool false), (.bool false), (.bool false), (.bool false), (.bool false), (.bool false), (.bool false), (.bool false), (.bool false), (.bool false), (.bool false), (.bool false), (.bool false), (.bool false), (.bool false), (.bool false), (.bool false), (.bool false), (.bool false), (.bool false), (.bool false), (.bool false), (.bool false), (.bool false), (.bool false), (.bool false), (.bool false), (.bool false), (.bool false), (.bool false), (.bool false), (.bool false), (.bool false), (.bool false), (.bool false), (.bool false), (.bool false), (.bool false), (.bool false), (.bool false), (.bool false), (.bool false), (.bool false), (.bool false), (.bool false), (.bool false), (.bool false), (.bool false), (.bool false), (.bool false), (.bool false), (.bool false), (.bool false), (.bool false), (.bool false), (.bool false), (.bool false), (.bool false), (.bool false), (.bool false), (.bool false), (.bool false), (.bool false), (.bool false), (.bool false), (.bool false), (.bool false), (.bool false), (.bool false), (.bool false), (.bool false), (.bool false), (.bool false), (.bool false), (.bool false), (.bool false), (.bool false), (.bool false), (.bool false), (.bool false), (.bool false), (.bool false), (.bool false), (.bool false), (.bool false), (.bool false), (.bool false), (.bool false), (.bool false), (.bool false), (.bool false), (.bool false), (.bool false), (.bool false), (.bool false), (.bool false), (.bool false), (.bool false), (.bool false), (.bool false), (.bool false), (.bool false), (.bool false), (.bool false), (.bool false), (.bool false), (.bool false), (.bool false), (.bool false), (.bool false), (.bool false), (.bool false), (.bool false), (.bool false), (.bool false), (.bool false), (.bool false), (.bool false), (.bool false), (.bool false), (.bool false), (.bool false), (.bool false), (.bool false), (.bool false), (.bool false), (.bool false), (.bool false), (.bool false), (.bool false), (.bool false), (.bool false), (.bool false), (.bool false), (.bool false), (.bool false), (.bool false), (.bool false), (.bool false), (.bool false), (.bool false), (.bool false), (.bool false), (.bool false), (.bool false), (.bool false), (.bool false), (.bool false), (.bool false), (.bool false), (.bool false), (.bool false), (.bool false), (.bool false), (.bool false), (.bool false), (.bool false), (.bool false), (.bool false)])⟩, 
  ⟨(some 3), none, (.mv (.k (.bool false)))⟩]) (.seq (.seq (.reg [⟨(some 4), none, (.mv (.k (.int .i64 0)))⟩]) (.block 0 (.loop (.seq (.seq (.reg [⟨(some 6), none, (.mv (.t 4))⟩, 
  ⟨(some 7), none, (.mv (.t 0))⟩, ⟨(some 8), none, (.lens (.t 7))⟩, ⟨(some 9), none, (.bin .lss (.t 6) (.t 8))⟩]) (.cond (.t 9) .skip (.exit 0))) (.seq (.block 1 (.seq 
  (.reg [⟨(some 12), none, (.mv (.t 0))⟩, ⟨(some 13), none, (.mv (.t 4))⟩, ⟨(some 14), none, (.ixs (.t 12) (.t 13))⟩, ⟨(some 5), none, (.mv (.t 14))⟩]) (.seq (.seq 
  (.reg [⟨(some 15), none, (.mv (.t 5))⟩, ⟨(some 16), none, (.bin .geq (.t 15) (.k (.int .u8 128)))⟩]) (.cond (.t 16) (.seq (.reg [⟨(some 17), none, (.ld (some 256) (.t 2))⟩, 
  ⟨none, none, (.st (some 256) (.t 2) (.t 17))⟩, ⟨(some 3), none, (.mv (.k (.bool false)))⟩]) .ret) .skip)) (.reg [⟨(some 18), none, (.mv (.t 5))⟩, 
  ⟨(some 19), none, (.ixp 1 256 (.t 2) (.t 18))⟩, ⟨none, none, (.st none (.t 19) (.k (.bool true)))⟩])))) (.reg [⟨(some 10), none, (.mv (.t 4))⟩, 
  ⟨(some 11), none, (.bin .add (.t 10) (.k (.int .i64 1)))⟩, ⟨(some 4), none, (.mv (.t 11))⟩])))))) (.seq (.reg [⟨(some 20), none, (.ld (some 256) (.t 2))⟩, 
  ⟨none, none, (.st (some 256) (.t 2) (.t 20))⟩, ⟨(some 3), none, (.mv (.k (.bool true)))⟩]) .ret)))⟩
theorem c_strings_makeASCIISet : compF Tryd.prog ⟨none, none⟩ Tryd.f73 = some r_strings_makeASCIISet := by kernel_rfl
/-- strings.trimLeftASCII -/
def r_strings_trimLeftASCII : RF :=
  ⟨16, [(.tmp 4)], (.seq (.reg [⟨(some 4), none, (.mv (.k (.str (bts []))))⟩]) (.seq (.block 0 (.loop (.seq (.seq (.reg [⟨(some 5), none, (.mv (.t 0))⟩, 
  ⟨(some 6), none, (.lens (.t 5))⟩, ⟨(some 7), none, (.bin .gtr (.t 6) (.k (.int .i64 0)))⟩]) (.cond (.t 7) .skip (.exit 0))) (.block 1 (.seq (.seq 
  (.reg [⟨(some 8), none, (.mv (.t 1))⟩, ⟨(some 9), none, (.mv (.t 0))⟩, ⟨(some 10), none, (.ixs (.t 9) (.k (.int .i64 0)))⟩, 
  ⟨(some 11), none, (.call f_strings_asciiSet_contains [(.t 8), (.t 10)])⟩, ⟨(some 12), none, (.un .not (.t 11))⟩]) (.cond (.t 12) (.exit 0) .skip)) 
  (.reg [⟨(some 13), none, (.mv (.t 0))⟩, ⟨(some 14), none, (.sls (.t 13) (some (.k (.int .i64 1))) none)⟩, ⟨(some 0), none, (.mv (.t 14))⟩])))))) (.seq 
  (.reg [⟨(some 15), none, (.mv (.t 0))⟩, ⟨(some 4), none, (.mv (.t 15))⟩]) .ret)))⟩
theorem c_strings_trimLeftASCII : compF Tryd.prog ⟨none, none⟩ Tryd.f74 = some r_strings_trimLeftASCII := by kernel_rfl
/-- strings.trimRightASCII -/
def r_strings_trimRightASCII : RF :=
  ⟨22, [(.tmp 4)], (.seq (.reg [⟨(some 4), none, (.mv (.k (.str (bts []))))⟩]) (.seq (.block 0 (.loop (.seq (.seq (.reg [⟨(some 5), none, (.mv (.t 0))⟩, 
  ⟨(some 6), none, (.lens (.t 5))⟩, ⟨(some 7), none, (.bin .gtr (.t 6) (.k (.int .i64 0)))⟩]) (.cond (.t 7) .skip (.exit 0))) (.block 1 (.seq (.seq 
  (.reg [⟨(some 8), none, (.mv (.t 1))⟩, ⟨(some 9), none, (.mv (.t 0))⟩, ⟨(some 10), none, (.mv (.t 0))⟩, ⟨(some 11), none, (.lens (.t 10))⟩, 
  ⟨(some 12), none, (.bin .sub (.t 11) (.k (.int .i64 1)))⟩, ⟨(some 13), none, (.ixs (.t 9) (.t 12))⟩, ⟨(some 14), none, (.call f_strings_asciiSet_contains [(.t 8), (.t 13)])⟩, 
  ⟨(some 15), none, (.un .not (.t 14))⟩]) (.cond (.t 15) (.exit 0) .skip)) (.reg [⟨(some 16), none, (.mv (.t 0))⟩, ⟨(some 17), none, (.mv (.t 0))⟩, 
  ⟨(some 18), none, (.lens (.t 17))⟩, ⟨(some 19), none, (.bin .sub (.t 18) (.k (.int .i64 1)))⟩, ⟨(some 20), none, (.sls (.t 16) none (some (.t 19)))⟩, 
  ⟨(some 0), none, (.mv (.t 20))⟩])))))) (.seq (.reg [⟨(some 21), none, (.mv (.t 0))⟩, ⟨(some 4), none, (.mv (.t 21))⟩]) .ret)))⟩
theorem c_strings_trimRightASCII : compF Tryd.prog ⟨none, none⟩ Tryd.f75 = some r_strings_trimRightASCII := by kernel_rfl
/-- strings.trimLeftUnicode -/
def r_strings_trimLeftUnicode : RF :=
  ⟨23, [(.tmp 4)], (.seq (.reg [⟨(some 4), none, (.mv (.k (.str (bts []))))⟩]) (.seq (.block 0 (.loop (.seq (.seq (.reg [⟨(some 7), none, (.mv (.t 0))⟩, 
  ⟨(some 8), none, (.lens (.t 7))⟩, ⟨(some 9), none, (.bin .gtr (.t 8) (.k (.int .i64 0)))⟩]) (.cond (.t 9) .skip (.exit 0))) (.block 1 (.seq (.reg [⟨(some 11), none, (.mv (.t 0))⟩, 
  ⟨(some 12), none, (.call f_utf8_DecodeRuneInString [(.t 11)])⟩, ⟨(some 10), none, (.mv (.t 12))⟩, ⟨(some 13), none, (.ext 0 (.t 10))⟩, ⟨(some 14), none, (.ext 1 (.t 10))⟩, 
  ⟨(some 5), none, (.mv (.t 13))⟩, ⟨(some 6), none, (.mv (.t 14))⟩]) (.seq (.seq (.reg [⟨(some 15), none, (.mv (.t 1))⟩, ⟨(some 16), none, (.mv (.t 5))⟩, 
  ⟨(some 17), none, (.call f_strings_ContainsRune [(.t 15), (.t 16)])⟩, ⟨(some 18), none, (.un .not (.t 17))⟩]) (.cond (.t 18) (.exit 0) .skip)) 
  (.reg [⟨(some 19), none, (.mv (.t 0))⟩, ⟨(some 20), none, (.mv (.t 6))⟩, ⟨(some 21), none, (.sls (.t 19) (some (.t 20)) none)⟩, ⟨(some 0), none, (.mv (.t 21))⟩]))))))) (.seq 
  (.reg [⟨(some 22), none, (.mv (.t 0))⟩, ⟨(some 4), none, (.mv (.t 22))⟩]) .ret)))⟩
theorem c_strings_trimLeftUnicode : compF Tryd.prog ⟨none, none⟩ Tryd.f76 = some r_strings_trimLeftUnicode := by kernel_rfl
/-- strings.trimRightUnicode -/
def r_strings_trimRightUnicode : RF :=
  ⟨34, [(.tmp 4)], (.seq (.reg [⟨(some 4), none, (.mv (.k (.str (bts []))))⟩]) (.seq (.block 0 (.loop (.seq (.seq (.reg [⟨(some 7), none, (.mv (.t 0))⟩, 
  ⟨(some 8), none, (.lens (.t 7))⟩, ⟨(some 9), none, (.bin .gtr (.t 8) (.k (.int .i64 0)))⟩]) (.cond (.t 9) .skip (.exit 0))) (.block 1 (.seq (.reg [⟨(some 10), none, (.mv (.t 0))⟩, 
  ⟨(some 11), none, (.mv (.t 0))⟩, ⟨(some 12), none, (.lens (.t 11))⟩, ⟨(some 13), none, (.bin .sub (.t 12) (.k (.int .i64 1)))⟩, ⟨(some 14), none, (.ixs (.t 10) (.t 13))⟩, 
  ⟨(some 15), none, (.cvi .i32 (.t 14))⟩, ⟨(some 5), none, (.mv (.t 15))⟩, ⟨(some 6), none, (.mv (.k (.int .i64 1)))⟩]) (.seq (.seq (.reg [⟨(some 16), none, (.mv (.t 5))⟩, 
  ⟨(some 17), none, (.bin .geq (.t 16) (.k (.int .i32 128)))⟩]) (.cond (.t 17) (.reg [⟨(some 19), none, (.mv (.t 0))⟩, 
  ⟨(some 20), none, (.call f_utf8_DecodeLastRuneInString [(.t 19)])⟩, ⟨(some 18), none, (.mv (.t 20))⟩, ⟨(some 21), none, (.ext 0 (.t 18))⟩, ⟨(some 22), none, (.ext 1 (.t 18))⟩, 
  ⟨(some 5), none, (.mv (.t 21))⟩, ⟨(some 6), none, (.mv (.t 22))⟩]) .skip)) (.seq (.seq (.reg [⟨(some 23), none, (.mv (.t 1))⟩, ⟨(some 24), none, (.mv (.t 5))⟩, 
  ⟨(some 25), none, (.call f_strings_ContainsRune [(.t 23), (.t 24)])⟩, ⟨(some 26), none, (.un .not (.t 25))⟩]) (.cond (.t 26) (.exit 0) .skip)) 
  (.reg [⟨(some 27), none, (.mv (.t 0))⟩, ⟨(some 28), none, (.mv (.t 0))⟩, ⟨(some 29), none, (.lens (.t 28))⟩, ⟨(some 30), none, (.mv (.t 6))⟩, 
  ⟨(some 31), none, (.bin .sub (.t 29) (.t 30))⟩, ⟨(some 32), none, (.sls (.t 27) none (some (.t 31)))⟩, ⟨(some 0), none, (.mv (.t 32))⟩])))))))) (.seq 
  (.reg [⟨(some 33), none, (.mv (.t 0))⟩, ⟨(some 4), none, (.mv (.t 33))⟩]) .ret)))⟩
theorem c_strings_trimRightUnicode : compF Tryd.prog ⟨none, none⟩ Tryd.f77 = some r_strings_trimRightUnicode := by kernel_rfl
/-- (*strings.asciiSet).contains -/
def r_strings_asciiSet_contains : RF :=
  ⟨10, [(.tmp 4)], (.seq (.reg [⟨(some 4), none, (.mv (.k (.bool false)))⟩]) (.seq (.reg [⟨(some 5), none, (.mv (.t 0))⟩, ⟨(some 6), none, (.mv (.t 1))⟩, 
  ⟨(some 7), none, (.nck (.t 5))⟩, ⟨(some 8), none, (.ixp 1 256 (.t 7) (.t 6))⟩, ⟨(some 9), none, (.ld none (.t 8))⟩, ⟨(some 4), none, (.mv (.t 9))⟩]) .ret))⟩
theorem c_strings_asciiSet_contains : compF Tryd.prog ⟨none, none⟩ Tryd.f78 = some r_strings_asciiSet_contains := by kernel_rfl
/-- unicode/utf8.DecodeRuneInString -/
def r_utf8_DecodeRuneInString : RF :=
  ⟨19, [(.tmp 2), (.tmp 3)], (.seq (.reg [⟨(some 2), none, (.mv (.k (.int .i32 0)))⟩, ⟨(some 3), none, (.mv (.k (.int .i64 0)))⟩]) (.seq (.seq (.reg [⟨(some 4), none, (.mv (.t 0))⟩, 
  ⟨(some 5), none, (.eq true .s (.t 4) (.k (.str (bts []))))⟩, ⟨(some 6), none, (.mv (.t 5))⟩, ⟨(some 7), (some (6, true)), (.mv (.t 0))⟩, 
  ⟨(some 8), (some (6, true)), (.ixs (.t 7) (.k (.int .i64 0)))⟩, ⟨(some 9), (some (6, true)), (.bin .lss (.t 8) (.k (.int .u8 128)))⟩, 
  ⟨(some 10), none, (.pick (.t 6) (.t 9) (.k (.bool false)))⟩]) (.cond (.t 10) (.seq (.reg [⟨(some 11), none, (.mv (.t 0))⟩, ⟨(some 12), none, (.ixs (.t 11) (.k (.int .i64 0)))⟩, 
  ⟨(some 13), none, (.cvi .i32 (.t 12))⟩, ⟨(some 2), none, (.mv (.t 13))⟩, ⟨(some 3), none, (.mv (.k (.int .i64 1)))⟩]) .ret) (.reg [⟨(some 15), none, (.mv (.t 0))⟩, 
  ⟨(some 16), none, (.call f_utf8_decodeRuneInStringSlow [(.t 15)])⟩, ⟨(some 14), none, (.mv (.t 16))⟩, ⟨(some 17), none, (.ext 0 (.t 14))⟩, ⟨(some 18), none, (.ext 1 (.t 14))⟩, 
  ⟨(some 2), none, (.mv (.t 17))⟩, ⟨(some 3), none, (.mv (.t 18))⟩]))) .ret))⟩
theorem c_utf8_DecodeRuneInString : compF Tryd.prog ⟨none, none⟩ Tryd.f79 = some r_utf8_DecodeRuneInString := by kernel_rfl
/-- strings.ContainsRune -/
def r_strings_ContainsRune : RF :=
  ⟨9, [(.tmp 4)], (.seq (.reg [⟨(some 4), none, (.mv (.k (.bool false)))⟩]) (.seq (.reg [⟨(some 5), none, (.mv (.t 0))⟩, ⟨(some 6), none, (.mv (.t 1))⟩, 
  ⟨(some 7), none, (.call f_strings_IndexRune [(.t 5), (.t 6)])⟩, ⟨(some 8), none, (.bin .geq (.t 7) (.k (.int .i64 0)))⟩, ⟨(some 4), none, (.mv (.t 8))⟩]) .ret))⟩
theorem c_strings_ContainsRune : compF Tryd.prog ⟨none, none⟩ Tryd.f80 = some r_strings_ContainsRune := by kernel_rfl
/-- unicode/utf8.DecodeLastRuneInString -/
def r_utf8_DecodeLastRuneInString : RF :=
  ⟨51, [(.tmp 2), (.tmp 3)], (.seq (.reg [⟨(some 2), none, (.mv (.k (.int .i32 0)))⟩, ⟨(some 3), none, (.mv (.k (.int .i64 0)))⟩]) (.seq (.reg [⟨(some 7), none, (.mv (.t 0))⟩, 
  ⟨(some 8), none, (.lens (.t 7))⟩, ⟨(some 4), none, (.mv (.t 8))⟩]) (.seq (.seq (.reg [⟨(some 9), none, (.mv (.t 4))⟩, ⟨(some 10), none, (.eq false .i (.t 9) (.k (.int .i64 0)))⟩]) 
  (.cond (.t 10) (.seq (.reg [⟨(some 2), none, (.mv (.k (.int .i32 65533)))⟩, ⟨(some 3), none, (.mv (.k (.int .i64 0)))⟩]) .ret) .skip)) (.seq 
  (.reg [⟨(some 11), none, (.mv (.t 4))⟩, ⟨(some 12), none, (.bin .sub (.t 11) (.k (.int .i64 1)))⟩, ⟨(some 5), none, (.mv (.t 12))⟩]) (.seq (.reg [⟨(some 13), none, (.mv (.t 0))⟩, 
  ⟨(some 14), none, (.mv (.t 5))⟩, ⟨(some 15), none, (.ixs (.t 13) (.t 14))⟩, ⟨(some 16), none, (.cvi .i32 (.t 15))⟩, ⟨(some 2), none, (.mv (.t 16))⟩]) (.seq (.seq 
  (.reg [⟨(some 17), none, (.mv (.t 2))⟩, ⟨(some 18), none, (.bin .lss (.t 17) (.k (.int .i32 128)))⟩]) (.cond (.t 18) (.seq (.reg [⟨(some 19), none, (.mv (.t 2))⟩, 
  ⟨(some 2), none, (.mv (.t 19))⟩, ⟨(some 3), none, (.mv (.k (.int .i64 1)))⟩]) .ret) .skip)) (.seq (.reg [⟨(some 20), none, (.mv (.t 4))⟩, 
  ⟨(some 21), none, (.bin .sub (.t 20) (.k (.int .i64 4)))⟩, ⟨(some 22), none, (.xp .mx [(.t 21), (.k (.int .i64 0))])⟩, ⟨(some 6), none, (.mv (.t 22))⟩]) (.seq (.seq 
  (.reg [⟨(some 23), none, (.mv (.t 5))⟩, ⟨(some 24), none, (.bin .sub (.t 23) (.k (.int .i64 1)))⟩, ⟨(some 5), none, (.mv (.t 24))⟩]) (.block 0 (.loop (.seq (.seq 
  (.reg [⟨(some 25), none, (.mv (.t 5))⟩, ⟨(some 26), none, (.mv (.t 6))⟩, ⟨(some 27), none, (.bin .geq (.t 25) (.t 26))⟩]) (.cond (.t 27) .skip (.exit 0))) (.seq (.block 1 (.seq 
  (.reg [⟨(some 30), none, (.mv (.t 0))⟩, ⟨(some 31), none, (.mv (.t 5))⟩, ⟨(some 32), none, (.ixs (.t 30) (.t 31))⟩, ⟨(some 33), none, (.call f_utf8_RuneStart [(.t 32)])⟩]) 
  (.cond (.t 33) (.exit 0) .skip))) (.reg [⟨(some 28), none, (.mv (.t 5))⟩, ⟨(some 29), none, (.bin .sub (.t 28) (.k (.int .i64 1)))⟩, ⟨(some 5), none, (.mv (.t 29))⟩])))))) (.seq 
  (.seq (.reg [⟨(some 34), none, (.mv (.t 5))⟩, ⟨(some 35), none, (.bin .lss (.t 34) (.k (.int .i64 0)))⟩]) (.cond (.t 35) 
  (.reg [⟨(some 5), none, (.mv (.k (.int .i64 0)))⟩]) .skip)) (.seq (.reg [⟨(some 37), none, (.mv (.t 0))⟩, ⟨(some 38), none, (.mv (.t 5))⟩, ⟨(some 39), none, (.mv (.t 4))⟩, 
  ⟨(some 40), none, (.sls (.t 37) (some (.t 38)) (some (.t 39)))⟩, ⟨(some 41), none, (.call f_utf8_DecodeRuneInString [(.t 40)])⟩, ⟨(some 36), none, (.mv (.t 41))⟩, 
  ⟨(some 42), none, (.ext 0 (.t 36))⟩, ⟨(some 43), none, (.ext 1 (.t 36))⟩, ⟨(some 2), none, (.mv (.t 42))⟩, ⟨(some 3), none, (.mv (.t 43))⟩]) (.seq (.seq 
  (.reg [⟨(some 44), none, (.mv (.t 5))⟩, ⟨(some 45), none, (.mv (.t 3))⟩, ⟨(some 46), none, (.bin .add (.t 44) (.t 45))⟩, ⟨(some 47), none, (.mv (.t 4))⟩, 
  ⟨(some 48), none, (.eq true .i (.t 46) (.t 47))⟩]) (.cond (.t 48) (.seq (.reg [⟨(some 2), none, (.mv (.k (.int .i32 65533)))⟩, 
  ⟨(some 3), none, (.mv (.k (.int .i64 1)))⟩]) .ret) .skip)) (.seq (.reg [⟨(some 49), none, (.mv (.t 2))⟩, ⟨(some 50), none, (.mv (.t 3))⟩, ⟨(some 2), none, (.mv (.t 49))⟩, 
  ⟨(some 3), none, (.mv (.t 50))⟩]) .ret))))))))))))⟩
theorem c_utf8_DecodeLastRuneInString : compF Tryd.prog ⟨none, none⟩ Tryd.f81 = some r_utf8_DecodeLastRuneInString := by kernel_rfl
/-- unicode/utf8.decodeRuneInStringSlow -/
def r_utf8_decodeRuneInStringSlow : RF :=
  ⟨117, [(.tmp 2), (.tmp 3)], (.seq (.reg [⟨(some 2), none, (.mv (.k (.int .i32 0)))⟩, ⟨(some 3), none, (.mv (.k (.int .i64 0)))⟩]) (.seq (.reg [⟨(some 13), none, (.mv (.t 0))⟩, 
  ⟨(some 14), none, (.lens (.t 13))⟩, ⟨(some 4), none, (.mv (.t 14))⟩]) (.seq (.seq (.reg [⟨(some 15), none, (.mv (.t 4))⟩, 
  ⟨(some 16), none, (.bin .lss (.t 15) (.k (.int .i64 1)))⟩]) (.cond (.t 16) (.seq (.reg [⟨(some 2), none, (.mv (.k (.int .i32 65533)))⟩, 
  ⟨(some 3), none, (.mv (.k (.int .i64 0)))⟩]) .ret) .skip)) (.seq (.reg [⟨(some 17), none, (.mv (.t 0))⟩, ⟨(some 18), none, (.ixs (.t 17) (.k (.int .i64 0)))⟩, 
  ⟨(some 5), none, (.mv (.t 18))⟩]) (.seq (.reg [⟨(some 19), none, (.mv (.t 5))⟩, ⟨(some 20), none, .fail⟩, ⟨(some 21), none, (.ld none (.t 20))⟩, ⟨(some 6), none, (.mv (.t 21))⟩]) 
  (.seq (.seq (.reg [⟨(some 22), none, (.mv (.t 6))⟩, ⟨(some 23), none, (.bin .geq (.t 22) (.k (.int .u8 240)))⟩]) (.cond (.t 23) (.seq (.reg [⟨(some 24), none, (.mv (.t 6))⟩, 
  ⟨(some 25), none, (.cvi .i32 (.t 24))⟩, ⟨(some 26), none, (.bin .shl (.t 25) (.k (.int .u64 31)))⟩, ⟨(some 27), none, (.bin .shr (.t 26) (.k (.int .u64 31)))⟩, 
  ⟨(some 7), none, (.mv (.t 27))⟩]) (.seq (.reg [⟨(some 28), none, (.mv (.t 0))⟩, ⟨(some 29), none, (.ixs (.t 28) (.k (.int .i64 0)))⟩, ⟨(some 30), none, (.cvi .i32 (.t 29))⟩, 
  ⟨(some 31), none, (.mv (.t 7))⟩, ⟨(some 32), none, (.bin .andNot (.t 30) (.t 31))⟩, ⟨(some 33), none, (.mv (.t 7))⟩, ⟨(some 34), none, (.bin .and (.k (.int .i32 65533)) (.t 33))⟩, 
  ⟨(some 35), none, (.bin .or (.t 32) (.t 34))⟩, ⟨(some 2), none, (.mv (.t 35))⟩, ⟨(some 3), none, (.mv (.k (.int .i64 1)))⟩]) .ret)) .skip)) (.seq 
  (.reg [⟨(some 36), none, (.mv (.t 6))⟩, ⟨(some 37), none, (.bin .and (.t 36) (.k (.int .u8 7)))⟩, ⟨(some 38), none, (.cvi .i64 (.t 37))⟩, ⟨(some 8), none, (.mv (.t 38))⟩]) (.seq 
  (.reg [⟨(some 39), none, (.mv (.t 6))⟩, ⟨(some 40), none, (.bin .shr (.t 39) (.k (.int .u64 4)))⟩, ⟨(some 41), none, .fail⟩, ⟨(some 42), none, (.ld (some 2) (.t 41))⟩, 
  ⟨(some 9), none, (.new [(.int .u8 0), (.int .u8 0)])⟩, ⟨none, none, (.st (some 2) (.t 9) (.t 42))⟩]) (.seq (.seq (.reg [⟨(some 43), none, (.mv (.t 4))⟩, 
  ⟨(some 44), none, (.mv (.t 8))⟩, ⟨(some 45), none, (.bin .lss (.t 43) (.t 44))⟩]) (.cond (.t 45) (.seq (.reg [⟨(some 2), none, (.mv (.k (.int .i32 65533)))⟩, 
  ⟨(some 3), none, (.mv (.k (.int .i64 1)))⟩]) .ret) .skip)) (.seq (.reg [⟨(some 46), none, (.mv (.t 0))⟩, ⟨(some 47), none, (.ixs (.t 46) (.k (.int .i64 1)))⟩, 
  ⟨(some 10), none, (.mv (.t 47))⟩]) (.seq (.seq (.reg [⟨(some 48), none, (.mv (.t 10))⟩, ⟨(some 49), none, (.off 0 (.t 9))⟩, ⟨(some 50), none, (.ld none (.t 49))⟩, 
  ⟨(some 51), none, (.bin .lss (.t 48) (.t 50))⟩, ⟨(some 52), none, (.mv (.t 51))⟩, ⟨(some 53), (some (52, false)), (.off 1 (.t 9))⟩, 
  ⟨(some 54), (some (52, false)), (.ld none (.t 53))⟩, ⟨(some 55), (some (52, false)), (.mv (.t 10))⟩, ⟨(some 56), (some (52, false)), (.bin .lss (.t 54) (.t 55))⟩, 
  ⟨(some 57), none, (.pick (.t 52) (.k (.bool true)) (.t 56))⟩]) (.cond (.t 57) (.seq (.reg [⟨(some 2), none, (.mv (.k (.int .i32 65533)))⟩, 
  ⟨(some 3), none, (.mv (.k (.int .i64 1)))⟩]) .ret) .skip)) (.seq (.seq (.reg [⟨(some 58), none, (.mv (.t 8))⟩, ⟨(some 59), none, (.bin .leq (.t 58) (.k (.int .i64 2)))⟩]) 
  (.cond (.t 59) (.seq (.reg [⟨(some 60), none, (.mv (.t 5))⟩, ⟨(some 61), none, (.bin .and (.t 60) (.k (.int .u8 31)))⟩, ⟨(some 62), none, (.cvi .i32 (.t 61))⟩, 
  ⟨(some 63), none, (.bin .shl (.t 62) (.k (.int .u64 6)))⟩, ⟨(some 64), none, (.mv (.t 10))⟩, ⟨(some 65), none, (.bin .and (.t 64) (.k (.int .u8 63)))⟩, 
  ⟨(some 66), none, (.cvi .i32 (.t 65))⟩, ⟨(some 67), none, (.bin .or (.t 63) (.t 66))⟩, ⟨(some 2), none, (.mv (.t 67))⟩, ⟨(some 3), none, (.mv (.k (.int .i64 2)))⟩]) .ret) .skip)) 
  (.seq (.reg [⟨(some 68), none, (.mv (.t 0))⟩, ⟨(some 69), none, (.ixs (.t 68) (.k (.int .i64 2)))⟩, ⟨(some 11), none, (.mv (.t 69))⟩]) (.seq (.seq 
  (.reg [⟨(some 70), none, (.mv (.t 11))⟩, ⟨(some 71), none, (.bin .lss (.t 70) (.k (.int .u8 128)))⟩, ⟨(some 72), none, (.mv (.t 71))⟩, 
  ⟨(some 73), (some (72, false)), (.mv (.t 11))⟩, ⟨(some 74), (some (72, false)), (.bin .lss (.k (.int .u8 191)) (.t 73))⟩, 
  ⟨(some 75), none, (.pick (.t 72) (.k (.bool true)) (.t 74))⟩]) (.cond (.t 75) (.seq (.reg [⟨(some 2), none, (.mv (.k (.int .i32 65533)))⟩, 
  ⟨(some 3), none, (.mv (.k (.int .i64 1)))⟩]) .ret) .skip)) (.seq (.seq (.reg [⟨(some 76), none, (.mv (.t 8))⟩, ⟨(some 77), none, (.bin .leq (.t 76) (.k (.int .i64 3)))⟩]) 
  (.cond (.t 77) (.seq (.reg [⟨(some 78), none, (.mv (.t 5))⟩, ⟨(some 79), none, (.bin .and (.t 78) (.k (.int .u8 15)))⟩, ⟨(some 80), none, (.cvi .i32 (.t 79))⟩, 
  ⟨(some 81), none, (.bin .shl (.t 80) (.k (.int .u64 12)))⟩, ⟨(some 82), none, (.mv (.t 10))⟩, ⟨(some 83), none, (.bin .and (.t 82) (.k (.int .u8 63)))⟩, 
  ⟨(some 84), none, (.cvi .i32 (.t 83))⟩, ⟨(some 85), none, (.bin .shl (.t 84) (.k (.int .u64 6)))⟩, ⟨(some 86), none, (.bin .or (.t 81) (.t 85))⟩, ⟨(some 87), none, (.mv (.t 11))⟩, 
  ⟨(some 88), none, (.bin .and (.t 87) (.k (.int .u8 63)))⟩, ⟨(some 89), none, (.cvi .i32 (.t 88))⟩, ⟨(some 90), none, (.bin .or (.t 86) (.t 89))⟩, ⟨(some 2), none, (.mv (.t 90))⟩, 
  ⟨(some 3), none, (.mv (.k (.int .i64 3)))⟩]) .ret) .skip)) (.seq (.reg [⟨(some 91), none, (.mv (.t 0))⟩, ⟨(some 92), none, (.ixs (.t 91) (.k (.int .i64 3)))⟩, 
  ⟨(some 12), none, (.mv (.t 92))⟩]) (.seq (.seq (.reg [⟨(some 93), none, (.mv (.t 12))⟩, ⟨(some 94), none, (.bin .lss (.t 93) (.k (.int .u8 128)))⟩, 
  ⟨(some 95), none, (.mv (.t 94))⟩, ⟨(some 96), (some (95, false)), (.mv (.t 12))⟩, ⟨(some 97), (some (95, false)), (.bin .lss (.k (.int .u8 191)) (.t 96))⟩, 
  ⟨(some 98), none, (.pick (.t 95) (.k (.bool true)) (.t 97))⟩]) (.cond (.t 98) (.seq (.reg [⟨(some 2), none, (.mv (.k (.int .i32 65533)))⟩, 
  ⟨(some 3), none, (.mv (.k (.int .i64 1)))⟩]) .ret) .skip)) (.seq (.reg [⟨(some 99), none, (.mv (.t 5))⟩, ⟨(some 100), none, (.bin .and (.t 99) (.k (.int .u8 7)))⟩, 
  ⟨(some 101), none, (.cvi .i32 (.t 100))⟩, ⟨(some 102), none, (.bin .shl (.t 101) (.k (.int .u64 18)))⟩, ⟨(some 103), none, (.mv (.t 10))⟩, 
  ⟨(some 104), none, (.bin .and (.t 103) (.k (.int .u8 63)))⟩, ⟨(some 105), none, (.cvi .i32 (.t 104))⟩, ⟨(some 106), none, (.bin .shl (.t 105) (.k (.int .u64 12)))⟩, 
  ⟨(some 107), none, (.bin .or (.t 102) (.t 106))⟩, ⟨(some 108), none, (.mv (.t 11))⟩, ⟨(some 109), none, (.bin .and (.t 108) (.k (.int .u8 63)))⟩, 
  ⟨(some 110), none, (.cvi .i32 (.t 109))⟩, ⟨(some 111), none, (.bin .shl (.t 110) (.k (.int .u64 6)))⟩, ⟨(some 112), none, (.bin .or (.t 107) (.t 111))⟩, 
  ⟨(some 113), none, (.mv (.t 12))⟩, ⟨(some 114), none, (.bin .and (.t 113) (.k (.int .u8 63)))⟩, ⟨(some 115), none, (.cvi .i32 (.t 114))⟩, 
  ⟨(some 116), none, (.bin .or (.t 112) (.t 115))⟩, ⟨(some 2), none, (.mv (.t 116))⟩, ⟨(some 3), none, (.mv (.k (.int .i64 4)))⟩]) .ret))))))))))))))))))⟩
theorem c_utf8_decodeRuneInStringSlow : compF Tryd.prog ⟨none, none⟩ Tryd.f82 = some r_utf8_decodeRuneInStringSlow := by kernel_rfl
/-- strings.IndexRune -/
def r_strings_IndexRune : RF :=
  ⟨187, [(.tmp 4)], (.seq (.reg [⟨(some 4), none, (.mv (.k (.int .i64 0)))⟩]) (.block 0 (.seq (.reg [⟨(some 161), none, (.mv (.t 1))⟩, 
  ⟨(some 162), none, (.bin .leq (.k (.int .i32 0)) (.t 161))⟩, ⟨(some 163), none, (.mv (.t 162))⟩, ⟨(some 164), (some (163, true)), (.mv (.t 1))⟩, 
  ⟨(some 165), (some (163, true)), (.bin .lss (.t 164) (.k (.int .i32 128)))⟩, ⟨(some 166), none, (.pick (.t 163) (.t 165) (.k (.bool false)))⟩, ⟨(some 160), none, (.mv (.t 166))⟩]) 
  (.cond (.t 160) (.seq (.reg [⟨(some 167), none, (.mv (.t 0))⟩, ⟨(some 168), none, (.mv (.t 1))⟩, ⟨(some 169), none, (.cvi .u8 (.t 168))⟩, 
  ⟨(some 170), none, (.call f_strings_IndexByte [(.t 167), (.t 169)])⟩, ⟨(some 4), none, (.mv (.t 170))⟩]) .ret) (.seq (.reg [⟨(some 172), none, (.mv (.t 1))⟩, 
  ⟨(some 173), none, (.eq false .i (.t 172) (.k (.int .i32 65533)))⟩, ⟨(some 171), none, (.mv (.t 173))⟩]) (.cond (.t 171) (.seq (.seq (.reg [⟨(some 174), none, (.mv (.t 0))⟩, 
  ⟨(some 175), none, .fail⟩]) (.block 9 (.loop (.seq (.reg [⟨(some 176), none, .fail⟩, ⟨(some 177), none, (.ext 0 (.t 176))⟩]) (.seq (.cond (.t 177) .skip (.exit 9)) (.block 10 
  (.seq (.reg [⟨(some 178), none, (.ext 1 (.t 176))⟩, ⟨(some 179), none, (.ext 2 (.t 176))⟩, ⟨(some 5), none, (.mv (.t 178))⟩, ⟨(some 6), none, (.mv (.t 179))⟩]) (.seq 
  (.reg [⟨(some 180), none, (.mv (.t 6))⟩, ⟨(some 181), none, (.eq false .i (.t 180) (.k (.int .i32 65533)))⟩]) (.cond (.t 181) (.seq (.reg [⟨(some 182), none, (.mv (.t 5))⟩, 
  ⟨(some 4), none, (.mv (.t 182))⟩]) .ret) .skip))))))))) (.seq (.reg [⟨(some 4), none, (.mv (.k (.int .i64 (-1))))⟩]) .ret)) (.seq (.reg [⟨(some 184), none, (.mv (.t 1))⟩, 
  ⟨(some 185), none, (.call f_utf8_ValidRune [(.t 184)])⟩, ⟨(some 186), none, (.un .not (.t 185))⟩, ⟨(some 183), none, (.mv (.t 186))⟩]) (.cond (.t 183) (.seq 
  (.reg [⟨(some 4), none, (.mv (.k (.int .i64 (-1))))⟩]) .ret) .fail))))))))⟩
theorem c_strings_IndexRune : compF Tryd.prog ⟨none, none⟩ Tryd.f83 = some r_strings_IndexRune := by kernel_rfl
/-- unicode/utf8.RuneStart -/
def r_utf8_RuneStart : RF :=
  ⟨6, [(.tmp 2)], (.seq (.reg [⟨(some 2), none, (.mv (.k (.bool false)))⟩]) (.seq (.reg [⟨(some 3), none, (.mv (.t 0))⟩, ⟨(some 4), none, (.bin .and (.t 3) (.k (.int .u8 192)))⟩, 
  ⟨(some 5), none, (.eq true .i (.t 4) (.k (.int .u8 128)))⟩, ⟨(some 2), none, (.mv (.t 5))⟩]) .ret))⟩
theorem c_utf8_RuneStart : compF Tryd.prog ⟨none, none⟩ Tryd.f84 = some r_utf8_RuneStart := by kernel_rfl
/-- strings.IndexByte -/
def r_strings_IndexByte : RF :=
  ⟨8, [(.tmp 4)], (.seq (.reg [⟨(some 4), none, (.mv (.k (.int .i64 0)))⟩]) (.seq (.reg [⟨(some 5), none, (.mv (.t 0))⟩, ⟨(some 6), none, (.mv (.t 1))⟩, 
  ⟨(some 7), none, (.call f_stringslite_IndexByte [(.t 5), (.t 6)])⟩, ⟨(some 4), none, (.mv (.t 7))⟩]) .ret))⟩
theorem c_strings_IndexByte : compF Tryd.prog ⟨none, none⟩ Tryd.f85 = some r_strings_IndexByte := by kernel_rfl
/-- unicode/utf8.ValidRune -/
def r_utf8_ValidRune : RF :=
  ⟨17, [(.tmp 2)], (.seq (.reg [⟨(some 2), none, (.mv (.k (.bool false)))⟩]) (.seq (.block 0 (.seq (.reg [⟨(some 4), none, (.mv (.t 0))⟩, 
  ⟨(some 5), none, (.bin .leq (.k (.int .i32 0)) (.t 4))⟩, ⟨(some 6), none, (.mv (.t 5))⟩, ⟨(some 7), (some (6, true)), (.mv (.t 0))⟩, 
  ⟨(some 8), (some (6, true)), (.bin .lss (.t 7) (.k (.int .i32 55296)))⟩, ⟨(some 9), none, (.pick (.t 6) (.t 8) (.k (.bool false)))⟩, ⟨(some 3), none, (.mv (.t 9))⟩]) (.cond (.t 3) 
  (.seq (.reg [⟨(some 2), none, (.mv (.k (.bool true)))⟩]) .ret) (.seq (.reg [⟨(some 11), none, (.mv (.t 0))⟩, ⟨(some 12), none, (.bin .lss (.k (.int .i32 57343)) (.t 11))⟩, 
  ⟨(some 13), none, (.mv (.t 12))⟩, ⟨(some 14), (some (13, true)), (.mv (.t 0))⟩, ⟨(some 15), (some (13, true)), (.bin .leq (.t 14) (.k (.int .i32 1114111)))⟩, 
  ⟨(some 16), none, (.pick (.t 13) (.t 15) (.k (.bool false)))⟩, ⟨(some 10), none, (.mv (.t 16))⟩]) (.cond (.t 10) (.seq 
  (.reg [⟨(some 2), none, (.mv (.k (.bool true)))⟩]) .ret) .skip))))) (.seq (.reg [⟨(some 2), none, (.mv (.k (.bool false)))⟩]) .ret)))⟩
theorem c_utf8_ValidRune : compF Tryd.prog ⟨none, none⟩ Tryd.f86 = some r_utf8_ValidRune := by kernel_rfl
/-- internal/bytealg.Cutover -/
def r_bytealg_Cutover : RF :=
  ⟨6, [(.tmp 2)], (.seq (.reg [⟨(some 2), none, (.mv (.k (.int .i64 0)))⟩]) (.seq (.reg [⟨(some 3), none, (.mv (.t 0))⟩, ⟨(some 4), none, (.bin .add (.t 3) (.k (.int .i64 16)))⟩, 
  ⟨(some 5), none, (.bin .quo (.t 4) (.k (.int .i64 8)))⟩, ⟨(some 2), none, (.mv (.t 5))⟩]) .ret))⟩
theorem c_bytealg_Cutover : compF Tryd.prog ⟨none, none⟩ Tryd.f87 = some r_bytealg_Cutover := by kernel_rfl
/-- internal/stringslite.IndexByte -/
def r_stringslite_IndexByte : RF :=
  ⟨8, [(.tmp 4)], (.seq (.reg [⟨(some 4), none, (.mv (.k (.int .i64 0)))⟩]) (.seq (.reg [⟨(some 5), none, (.mv (.t 0))⟩, ⟨(some 6), none, (.mv (.t 1))⟩, 
  ⟨(some 7), none, (.call 90 [(.t 5), (.t 6)])⟩, ⟨(some 4), none, (.mv (.t 7))⟩]) .ret))⟩
theorem c_stringslite_IndexByte : compF Tryd.prog ⟨none, none⟩ Tryd.f89 = some r_stringslite_IndexByte := by kernel_rfl
/-- gosem.cut.vars -/
def r_gosem_cut_vars : RF :=
  ⟨6, [], (.reg [⟨(some 0), none, (.bld [(.int .u8 0), (.int .u8 0)] [(0, (1, (.k (.int .u8 128)))), (1, (1, (.k (.int .u8 191))))])⟩, 
  ⟨(some 1), none, (.bld [(.int .u8 0), (.int .u8 0)] [(0, (1, (.k (.int .u8 160)))), (1, (1, (.k (.int .u8 191))))])⟩, 
  ⟨(some 2), none, (.bld [(.int .u8 0), (.int .u8 0)] [(0, (1, (.k (.int .u8 128)))), (1, (1, (.k (.int .u8 159))))])⟩, 
  ⟨(some 3), none, (.bld [(.int .u8 0), (.int .u8 0)] [(0, (1, (.k (.int .u8 144)))), (1, (1, (.k (.int .u8 191))))])⟩, 
  ⟨(some 4), none, (.bld [(.int .u8 0), (.int .u8 0)] [(0, (1, (.k (.int .u8 128)))), (1, (1, (.k (.int .u8 143))))])⟩, 
  ⟨(some 5), none, (.bld [(.int .u8 0), (.int .u8 0), (.int .u8 0), (.int .u8 0), (.int .u8 0), (.int .u8 0), (.int .u8 0), (.int .u8 0), (.int .u8 0), (.int .u8 0), (.int .u8 0), (.int .u8 0), (.int .u8 0), (.int .u8 0), (.int .u8 0), (.int .u8 0), (.int .u8 0), (.int .u8 0), (.int .u8 0), (.int .u8 0), (.int .u8 0), (.int .u8 0), (.int .u8 0), (.int .u8 0), (.int .u8 0), (.int .u8 0), (.int .u8 0), (.int .u8 0), (.int .u8 0), (.int .u8 0), (.int .u8 0), (.int .u8 0)] [(0, (2, (.t 0))), (2, (2, (.t 1))), (4, (2, (.t 2))), (6, (2, (.t 3))), (8, (2, (.t 4)))])⟩, 
  ⟨none, none, .fail⟩])⟩
theorem c_gosem_cut_vars : compF Tryd.prog ⟨none, none⟩ Tryd.f111 = some r_gosem_cut_vars := by kernel_rfl
def ex0 : Ex := ⟨none, none⟩
def tbl0 : List (Nat × RF) := [(f_gosem_cut_init, r_gosem_cut_init), (f_w07_WalScans, r_w07_WalScans), (f_w07_WalSpoilt, r_w07_WalSpoilt), (f_w07_WalCrash, r_w07_WalCrash), (f_w07_WalExact, r_w07_WalExact), (f_w07_awake, r_w07_awake), (f_wal_Frame, r_wal_Frame), (f_r07_Frame, r_r07_Frame), (f_r07_Scan, r_r07_Scan), (f_w07_same, r_w07_same), (f_files_New, r_files_New), (f_wal_Open, r_wal_Open), (f_files_Disk_Arm, r_files_Disk_Arm), (f_files_Disk_Down, r_files_Disk_Down), (f_wal_Log_Append, r_wal_Log_Append), (f_wal_Log_Sync, r_wal_Log_Sync), (f_files_Disk_Off, r_files_Disk_Off), (f_files_Disk_On, r_files_Disk_On), (f_r06_New, r_r06_New), (f_r07_Open, r_r07_Open), (f_r07_Log_Append, r_r07_Log_Append), (f_r07_Log_Sync, r_r07_Log_Sync), (f_r06_Disk_Arm, r_r06_Disk_Arm), (f_r06_Disk_Off, r_r06_Disk_Off), (f_r06_Disk_On, r_r06_Disk_On), (f_files_Disk_Append, r_files_Disk_Append), (f_r06_Disk_Append, r_r06_Disk_Append), (f_wal_Log_Size, r_wal_Log_Size), (f_r07_Log_Size, r_r07_Log_Size), (f_files_Disk_Steps, r_files_Disk_Steps), (f_r06_Disk_Steps, r_r06_Disk_Steps), (f_r06_Disk_Down, r_r06_Disk_Down), (f_files_Disk_Read, r_files_Disk_Read), (f_r06_Disk_Read, r_r06_Disk_Read), (f_wal_isRecord, r_wal_isRecord), (f_octet_Put32, r_octet_Put32), (f_digest_CRC, r_digest_CRC), (f_r04_Put32, r_r04_Put32), (f_r05_CRC, r_r05_CRC), (f_wal_frames, r_wal_frames), (f_r07_one, r_r07_one), (f_files_Disk_Cut, r_files_Disk_Cut), (f_wal_Log_check, r_wal_Log_check), (f_files_Disk_Sync, r_files_Disk_Sync), (f_r06_Disk_Cut, r_r06_Disk_Cut), (f_r07_Log_check, r_r07_Log_check), (f_r06_Disk_Sync, r_r06_Disk_Sync), (f_r06_Disk_goes, r_r06_Disk_goes), (f_files_Disk_find, r_files_Disk_find), (f_files_Disk_spend, r_files_Disk_spend), (f_r06_Disk_check, r_r06_Disk_check), (f_r06_Disk_place, r_r06_Disk_place), (f_r06_Disk_put, r_r06_Disk_put), (f_r06_Disk_power, r_r06_Disk_power), (f_octet_put_uint32, r_octet_put_uint32), (f_r04_put, r_r04_put), (f_wal_frames_1, r_wal_frames_1), (f_octet_Get32, r_octet_Get32), (f_octet_Cut, r_octet_Cut), (f_r04_Get32, r_r04_Get32), (f_r04_Cut, r_r04_Cut), (f_files_Disk_check, r_files_Disk_check), (f_r06_Name, r_r06_Name), (f_octet_get_uint32, r_octet_get_uint32), (f_r04_get, r_r04_get), (f_files_isName, r_files_isName), (f_strings_Trim, r_strings_Trim), (f_strings_trimLeftByte, r_strings_trimLeftByte), (f_strings_trimRightByte, r_strings_trimRightByte), (f_strings_makeASCIISet, r_strings_makeASCIISet), (f_strings_trimLeftASCII, r_strings_trimLeftASCII), (f_strings_trimRightASCII, r_strings_trimRightASCII), (f_strings_trimLeftUnicode, r_strings_trimLeftUnicode), (f_strings_trimRightUnicode, r_strings_trimRightUnicode), (f_strings_asciiSet_contains, r_strings_asciiSet_contains), (f_utf8_DecodeRuneInString, r_utf8_DecodeRuneInString), (f_strings_ContainsRune, r_strings_ContainsRune), (f_utf8_DecodeLastRuneInString, r_utf8_DecodeLastRuneInString), (f_utf8_decodeRuneInStringSlow, r_utf8_decodeRuneInStringSlow), (f_strings_IndexRune, r_strings_IndexRune), (f_utf8_RuneStart, r_utf8_RuneStart), (f_strings_IndexByte, r_strings_IndexByte), (f_utf8_ValidRune, r_utf8_ValidRune), (f_bytealg_Cutover, r_bytealg_Cutover), (f_stringslite_IndexByte, r_stringslite_IndexByte), (f_gosem_cut_vars, r_gosem_cut_vars)]
def T0 (f : Nat) : Option RF := tbl0.lookup f
/-- A table that has these functions. -/
class Has (T : Nat → Option RF) : Prop where
  sub : ∀ f F, T0 f = some F → T f = some F
instance : Has T0 := ⟨fun _ _ h => h⟩
theorem has {T : Nat → Option RF} [h : Has T] {f : Nat} {F : RF} (e : T0 f = some F) : T f = some F := h.sub f F e
theorem lookup_mem {f : Nat} {F : RF} : ∀ {l : List (Nat × RF)}, l.lookup f = some F → (f, F) ∈ l
  | [], h => by simp at h
  | (g, G) :: l, h => by
    simp only [List.lookup] at h
    split at h
    · rename_i he; simp at he h; subst he; subst h; simp
    · exact List.mem_cons_of_mem _ (lookup_mem h)
structure TF (x : Nat × RF) : Prop where
  ok : ∃ fn, Tryd.prog.funcs[x.1]? = some fn ∧ (fn.name == "runtime.NumGoroutine") = false ∧ compF Tryd.prog ex0 fn = some x.2
theorem k_gosem_cut_init : TF (f_gosem_cut_init, r_gosem_cut_init) := ⟨Tryd.f2, Tryd.func2, by kernel_rfl, c_gosem_cut_init⟩
theorem k_w07_WalScans : TF (f_w07_WalScans, r_w07_WalScans) := ⟨Tryd.f3, Tryd.func3, by kernel_rfl, c_w07_WalScans⟩
theorem k_w07_WalSpoilt : TF (f_w07_WalSpoilt, r_w07_WalSpoilt) := ⟨Tryd.f4, Tryd.func4, by kernel_rfl, c_w07_WalSpoilt⟩
theorem k_w07_WalCrash : TF (f_w07_WalCrash, r_w07_WalCrash) := ⟨Tryd.f5, Tryd.func5, by kernel_rfl, c_w07_WalCrash⟩
theorem k_w07_WalExact : TF (f_w07_WalExact, r_w07_WalExact) := ⟨Tryd.f6, Tryd.func6, by kernel_rfl, c_w07_WalExact⟩
theorem k_w07_awake : TF (f_w07_awake, r_w07_awake) := ⟨Tryd.f7, Tryd.func7, by kernel_rfl, c_w07_awake⟩
theorem k_wal_Frame : TF (f_wal_Frame, r_wal_Frame) := ⟨Tryd.f8, Tryd.func8, by kernel_rfl, c_wal_Frame⟩
theorem k_r07_Frame : TF (f_r07_Frame, r_r07_Frame) := ⟨Tryd.f9, Tryd.func9, by kernel_rfl, c_r07_Frame⟩
theorem k_wal_Scan : TF (f_wal_Scan, r_wal_Scan) := ⟨Tryd.f10, Tryd.func10, by kernel_rfl, c_wal_Scan⟩
theorem k_r07_Scan : TF (f_r07_Scan, r_r07_Scan) := ⟨Tryd.f11, Tryd.func11, by kernel_rfl, c_r07_Scan⟩
theorem k_w07_same : TF (f_w07_same, r_w07_same) := ⟨Tryd.f12, Tryd.func12, by kernel_rfl, c_w07_same⟩
theorem k_files_New : TF (f_files_New, r_files_New) := ⟨Tryd.f13, Tryd.func13, by kernel_rfl, c_files_New⟩
theorem k_wal_Open : TF (f_wal_Open, r_wal_Open) := ⟨Tryd.f14, Tryd.func14, by kernel_rfl, c_wal_Open⟩
theorem k_files_Disk_Arm : TF (f_files_Disk_Arm, r_files_Disk_Arm) := ⟨Tryd.f15, Tryd.func15, by kernel_rfl, c_files_Disk_Arm⟩
theorem k_files_Disk_Down : TF (f_files_Disk_Down, r_files_Disk_Down) := ⟨Tryd.f16, Tryd.func16, by kernel_rfl, c_files_Disk_Down⟩
theorem k_wal_Log_Append : TF (f_wal_Log_Append, r_wal_Log_Append) := ⟨Tryd.f17, Tryd.func17, by kernel_rfl, c_wal_Log_Append⟩
theorem k_wal_Log_Sync : TF (f_wal_Log_Sync, r_wal_Log_Sync) := ⟨Tryd.f18, Tryd.func18, by kernel_rfl, c_wal_Log_Sync⟩
theorem k_files_Disk_Off : TF (f_files_Disk_Off, r_files_Disk_Off) := ⟨Tryd.f19, Tryd.func19, by kernel_rfl, c_files_Disk_Off⟩
theorem k_files_Disk_On : TF (f_files_Disk_On, r_files_Disk_On) := ⟨Tryd.f20, Tryd.func20, by kernel_rfl, c_files_Disk_On⟩
theorem k_r06_New : TF (f_r06_New, r_r06_New) := ⟨Tryd.f21, Tryd.func21, by kernel_rfl, c_r06_New⟩
theorem k_r07_Open : TF (f_r07_Open, r_r07_Open) := ⟨Tryd.f22, Tryd.func22, by kernel_rfl, c_r07_Open⟩
theorem k_r07_Log_Append : TF (f_r07_Log_Append, r_r07_Log_Append) := ⟨Tryd.f23, Tryd.func23, by kernel_rfl, c_r07_Log_Append⟩
theorem k_r07_Log_Sync : TF (f_r07_Log_Sync, r_r07_Log_Sync) := ⟨Tryd.f24, Tryd.func24, by kernel_rfl, c_r07_Log_Sync⟩
theorem k_r06_Disk_Arm : TF (f_r06_Disk_Arm, r_r06_Disk_Arm) := ⟨Tryd.f25, Tryd.func25, by kernel_rfl, c_r06_Disk_Arm⟩
theorem k_r06_Disk_Off : TF (f_r06_Disk_Off, r_r06_Disk_Off) := ⟨Tryd.f26, Tryd.func26, by kernel_rfl, c_r06_Disk_Off⟩
theorem k_r06_Disk_On : TF (f_r06_Disk_On, r_r06_Disk_On) := ⟨Tryd.f27, Tryd.func27, by kernel_rfl, c_r06_Disk_On⟩
theorem k_files_Disk_Append : TF (f_files_Disk_Append, r_files_Disk_Append) := ⟨Tryd.f28, Tryd.func28, by kernel_rfl, c_files_Disk_Append⟩
theorem k_r06_Disk_Append : TF (f_r06_Disk_Append, r_r06_Disk_Append) := ⟨Tryd.f29, Tryd.func29, by kernel_rfl, c_r06_Disk_Append⟩
theorem k_wal_Log_Size : TF (f_wal_Log_Size, r_wal_Log_Size) := ⟨Tryd.f30, Tryd.func30, by kernel_rfl, c_wal_Log_Size⟩
theorem k_r07_Log_Size : TF (f_r07_Log_Size, r_r07_Log_Size) := ⟨Tryd.f31, Tryd.func31, by kernel_rfl, c_r07_Log_Size⟩
theorem k_files_Disk_Steps : TF (f_files_Disk_Steps, r_files_Disk_Steps) := ⟨Tryd.f32, Tryd.func32, by kernel_rfl, c_files_Disk_Steps⟩
theorem k_r06_Disk_Steps : TF (f_r06_Disk_Steps, r_r06_Disk_Steps) := ⟨Tryd.f33, Tryd.func33, by kernel_rfl, c_r06_Disk_Steps⟩
theorem k_r06_Disk_Down : TF (f_r06_Disk_Down, r_r06_Disk_Down) := ⟨Tryd.f34, Tryd.func34, by kernel_rfl, c_r06_Disk_Down⟩
theorem k_files_Disk_Read : TF (f_files_Disk_Read, r_files_Disk_Read) := ⟨Tryd.f35, Tryd.func35, by kernel_rfl, c_files_Disk_Read⟩
theorem k_r06_Disk_Read : TF (f_r06_Disk_Read, r_r06_Disk_Read) := ⟨Tryd.f36, Tryd.func36, by kernel_rfl, c_r06_Disk_Read⟩
theorem k_wal_isRecord : TF (f_wal_isRecord, r_wal_isRecord) := ⟨Tryd.f37, Tryd.func37, by kernel_rfl, c_wal_isRecord⟩
theorem k_octet_Put32 : TF (f_octet_Put32, r_octet_Put32) := ⟨Tryd.f38, Tryd.func38, by kernel_rfl, c_octet_Put32⟩
theorem k_digest_CRC : TF (f_digest_CRC, r_digest_CRC) := ⟨Tryd.f39, Tryd.func39, by kernel_rfl, c_digest_CRC⟩
theorem k_r04_Put32 : TF (f_r04_Put32, r_r04_Put32) := ⟨Tryd.f40, Tryd.func40, by kernel_rfl, c_r04_Put32⟩
theorem k_r05_CRC : TF (f_r05_CRC, r_r05_CRC) := ⟨Tryd.f41, Tryd.func41, by kernel_rfl, c_r05_CRC⟩
theorem k_wal_frames : TF (f_wal_frames, r_wal_frames) := ⟨Tryd.f42, Tryd.func42, by kernel_rfl, c_wal_frames⟩
theorem k_r07_one : TF (f_r07_one, r_r07_one) := ⟨Tryd.f43, Tryd.func43, by kernel_rfl, c_r07_one⟩
theorem k_files_Disk_Cut : TF (f_files_Disk_Cut, r_files_Disk_Cut) := ⟨Tryd.f44, Tryd.func44, by kernel_rfl, c_files_Disk_Cut⟩
theorem k_wal_Log_check : TF (f_wal_Log_check, r_wal_Log_check) := ⟨Tryd.f45, Tryd.func45, by kernel_rfl, c_wal_Log_check⟩
theorem k_files_Disk_Sync : TF (f_files_Disk_Sync, r_files_Disk_Sync) := ⟨Tryd.f46, Tryd.func46, by kernel_rfl, c_files_Disk_Sync⟩
theorem k_files_Disk_lose : TF (f_files_Disk_lose, r_files_Disk_lose) := ⟨Tryd.f47, Tryd.func47, by kernel_rfl, c_files_Disk_lose⟩
theorem k_r06_Disk_Cut : TF (f_r06_Disk_Cut, r_r06_Disk_Cut) := ⟨Tryd.f48, Tryd.func48, by kernel_rfl, c_r06_Disk_Cut⟩
theorem k_r07_Log_check : TF (f_r07_Log_check, r_r07_Log_check) := ⟨Tryd.f49, Tryd.func49, by kernel_rfl, c_r07_Log_check⟩
theorem k_r06_Disk_Sync : TF (f_r06_Disk_Sync, r_r06_Disk_Sync) := ⟨Tryd.f50, Tryd.func50, by kernel_rfl, c_r06_Disk_Sync⟩
theorem k_r06_Disk_goes : TF (f_r06_Disk_goes, r_r06_Disk_goes) := ⟨Tryd.f51, Tryd.func51, by kernel_rfl, c_r06_Disk_goes⟩
theorem k_files_Disk_find : TF (f_files_Disk_find, r_files_Disk_find) := ⟨Tryd.f52, Tryd.func52, by kernel_rfl, c_files_Disk_find⟩
theorem k_files_Disk_spend : TF (f_files_Disk_spend, r_files_Disk_spend) := ⟨Tryd.f53, Tryd.func53, by kernel_rfl, c_files_Disk_spend⟩
theorem k_r06_Disk_check : TF (f_r06_Disk_check, r_r06_Disk_check) := ⟨Tryd.f54, Tryd.func54, by kernel_rfl, c_r06_Disk_check⟩
theorem k_r06_Disk_place : TF (f_r06_Disk_place, r_r06_Disk_place) := ⟨Tryd.f55, Tryd.func55, by kernel_rfl, c_r06_Disk_place⟩
theorem k_r06_Disk_put : TF (f_r06_Disk_put, r_r06_Disk_put) := ⟨Tryd.f56, Tryd.func56, by kernel_rfl, c_r06_Disk_put⟩
theorem k_r06_Disk_power : TF (f_r06_Disk_power, r_r06_Disk_power) := ⟨Tryd.f57, Tryd.func57, by kernel_rfl, c_r06_Disk_power⟩
theorem k_octet_put_uint32 : TF (f_octet_put_uint32, r_octet_put_uint32) := ⟨Tryd.f58, Tryd.func58, by kernel_rfl, c_octet_put_uint32⟩
theorem k_r04_put : TF (f_r04_put, r_r04_put) := ⟨Tryd.f59, Tryd.func59, by kernel_rfl, c_r04_put⟩
theorem k_wal_frames_1 : TF (f_wal_frames_1, r_wal_frames_1) := ⟨Tryd.f60, Tryd.func60, by kernel_rfl, c_wal_frames_1⟩
theorem k_octet_Get32 : TF (f_octet_Get32, r_octet_Get32) := ⟨Tryd.f61, Tryd.func61, by kernel_rfl, c_octet_Get32⟩
theorem k_octet_Cut : TF (f_octet_Cut, r_octet_Cut) := ⟨Tryd.f62, Tryd.func62, by kernel_rfl, c_octet_Cut⟩
theorem k_r04_Get32 : TF (f_r04_Get32, r_r04_Get32) := ⟨Tryd.f63, Tryd.func63, by kernel_rfl, c_r04_Get32⟩
theorem k_r04_Cut : TF (f_r04_Cut, r_r04_Cut) := ⟨Tryd.f64, Tryd.func64, by kernel_rfl, c_r04_Cut⟩
theorem k_files_Disk_check : TF (f_files_Disk_check, r_files_Disk_check) := ⟨Tryd.f65, Tryd.func65, by kernel_rfl, c_files_Disk_check⟩
theorem k_r06_Name : TF (f_r06_Name, r_r06_Name) := ⟨Tryd.f66, Tryd.func66, by kernel_rfl, c_r06_Name⟩
theorem k_octet_get_uint32 : TF (f_octet_get_uint32, r_octet_get_uint32) := ⟨Tryd.f67, Tryd.func67, by kernel_rfl, c_octet_get_uint32⟩
theorem k_r04_get : TF (f_r04_get, r_r04_get) := ⟨Tryd.f68, Tryd.func68, by kernel_rfl, c_r04_get⟩
theorem k_files_isName : TF (f_files_isName, r_files_isName) := ⟨Tryd.f69, Tryd.func69, by kernel_rfl, c_files_isName⟩
theorem k_strings_Trim : TF (f_strings_Trim, r_strings_Trim) := ⟨Tryd.f70, Tryd.func70, by kernel_rfl, c_strings_Trim⟩
theorem k_strings_trimLeftByte : TF (f_strings_trimLeftByte, r_strings_trimLeftByte) := ⟨Tryd.f71, Tryd.func71, by kernel_rfl, c_strings_trimLeftByte⟩
theorem k_strings_trimRightByte : TF (f_strings_trimRightByte, r_strings_trimRightByte) := ⟨Tryd.f72, Tryd.func72, by kernel_rfl, c_strings_trimRightByte⟩
theorem k_strings_makeASCIISet : TF (f_strings_makeASCIISet, r_strings_makeASCIISet) := ⟨Tryd.f73, Tryd.func73, by kernel_rfl, c_strings_makeASCIISet⟩
theorem k_strings_trimLeftASCII : TF (f_strings_trimLeftASCII, r_strings_trimLeftASCII) := ⟨Tryd.f74, Tryd.func74, by kernel_rfl, c_strings_trimLeftASCII⟩
theorem k_strings_trimRightASCII : TF (f_strings_trimRightASCII, r_strings_trimRightASCII) := ⟨Tryd.f75, Tryd.func75, by kernel_rfl, c_strings_trimRightASCII⟩
theorem k_strings_trimLeftUnicode : TF (f_strings_trimLeftUnicode, r_strings_trimLeftUnicode) := ⟨Tryd.f76, Tryd.func76, by kernel_rfl, c_strings_trimLeftUnicode⟩
theorem k_strings_trimRightUnicode : TF (f_strings_trimRightUnicode, r_strings_trimRightUnicode) := ⟨Tryd.f77, Tryd.func77, by kernel_rfl, c_strings_trimRightUnicode⟩
theorem k_strings_asciiSet_contains : TF (f_strings_asciiSet_contains, r_strings_asciiSet_contains) := ⟨Tryd.f78, Tryd.func78, by kernel_rfl, c_strings_asciiSet_contains⟩
theorem k_utf8_DecodeRuneInString : TF (f_utf8_DecodeRuneInString, r_utf8_DecodeRuneInString) := ⟨Tryd.f79, Tryd.func79, by kernel_rfl, c_utf8_DecodeRuneInString⟩
theorem k_strings_ContainsRune : TF (f_strings_ContainsRune, r_strings_ContainsRune) := ⟨Tryd.f80, Tryd.func80, by kernel_rfl, c_strings_ContainsRune⟩
theorem k_utf8_DecodeLastRuneInString : TF (f_utf8_DecodeLastRuneInString, r_utf8_DecodeLastRuneInString) := ⟨Tryd.f81, Tryd.func81, by kernel_rfl, c_utf8_DecodeLastRuneInString⟩
theorem k_utf8_decodeRuneInStringSlow : TF (f_utf8_decodeRuneInStringSlow, r_utf8_decodeRuneInStringSlow) := ⟨Tryd.f82, Tryd.func82, by kernel_rfl, c_utf8_decodeRuneInStringSlow⟩
theorem k_strings_IndexRune : TF (f_strings_IndexRune, r_strings_IndexRune) := ⟨Tryd.f83, Tryd.func83, by kernel_rfl, c_strings_IndexRune⟩
theorem k_utf8_RuneStart : TF (f_utf8_RuneStart, r_utf8_RuneStart) := ⟨Tryd.f84, Tryd.func84, by kernel_rfl, c_utf8_RuneStart⟩
theorem k_strings_IndexByte : TF (f_strings_IndexByte, r_strings_IndexByte) := ⟨Tryd.f85, Tryd.func85, by kernel_rfl, c_strings_IndexByte⟩
theorem k_utf8_ValidRune : TF (f_utf8_ValidRune, r_utf8_ValidRune) := ⟨Tryd.f86, Tryd.func86, by kernel_rfl, c_utf8_ValidRune⟩
theorem k_bytealg_Cutover : TF (f_bytealg_Cutover, r_bytealg_Cutover) := ⟨Tryd.f87, Tryd.func87, by kernel_rfl, c_bytealg_Cutover⟩
theorem k_stringslite_IndexByte : TF (f_stringslite_IndexByte, r_stringslite_IndexByte) := ⟨Tryd.f89, Tryd.func89, by kernel_rfl, c_stringslite_IndexByte⟩
theorem k_gosem_cut_vars : TF (f_gosem_cut_vars, r_gosem_cut_vars) := ⟨Tryd.f111, Tryd.func111, by kernel_rfl, c_gosem_cut_vars⟩
theorem tbl0_ok : ∀ x ∈ tbl0, TF x := by
  unfold tbl0
  simp only [List.forall_mem_cons]
  exact ⟨k_gosem_cut_init, k_w07_WalScans, k_w07_WalSpoilt, k_w07_WalCrash, k_w07_WalExact, k_w07_awake, k_wal_Frame, k_r07_Frame, k_r07_Scan, k_w07_same, k_files_New, k_wal_Open, k_files_Disk_Arm, k_files_Disk_Down, k_wal_Log_Append, k_wal_Log_Sync, k_files_Disk_Off, k_files_Disk_On, k_r06_New, k_r07_Open, k_r07_Log_Append, k_r07_Log_Sync, k_r06_Disk_Arm, k_r06_Disk_Off, k_r06_Disk_On, k_files_Disk_Append, k_r06_Disk_Append, k_wal_Log_Size, k_r07_Log_Size, k_files_Disk_Steps, k_r06_Disk_Steps, k_r06_Disk_Down, k_files_Disk_Read, k_r06_Disk_Read, k_wal_isRecord, k_octet_Put32, k_digest_CRC, k_r04_Put32, k_r05_CRC, k_wal_frames, k_r07_one, k_files_Disk_Cut, k_wal_Log_check, k_files_Disk_Sync, k_r06_Disk_Cut, k_r07_Log_check, k_r06_Disk_Sync, k_r06_Disk_goes, k_files_Disk_find, k_files_Disk_spend, k_r06_Disk_check, k_r06_Disk_place, k_r06_Disk_put, k_r06_Disk_power, k_octet_put_uint32, k_r04_put, k_wal_frames_1, k_octet_Get32, k_octet_Cut, k_r04_Get32, k_r04_Cut, k_files_Disk_check, k_r06_Name, k_octet_get_uint32, k_r04_get, k_files_isName, k_strings_Trim, k_strings_trimLeftByte, k_strings_trimRightByte, k_strings_makeASCIISet, k_strings_trimLeftASCII, k_strings_trimRightASCII, k_strings_trimLeftUnicode, k_strings_trimRightUnicode, k_strings_asciiSet_contains, k_utf8_DecodeRuneInString, k_strings_ContainsRune, k_utf8_DecodeLastRuneInString, k_utf8_decodeRuneInStringSlow, k_strings_IndexRune, k_utf8_RuneStart, k_strings_IndexByte, k_utf8_ValidRune, k_bytealg_Cutover, k_stringslite_IndexByte, k_gosem_cut_vars, by simp⟩
theorem tok0 : TOK Tryd.prog ex0 T0 := ⟨fun f F h => .inl (tbl0_ok _ (lookup_mem h)).ok⟩
theorem exok : ExOK Tryd.prog ex0 := ⟨fun f h => (by cases h), fun f h => (by cases h)⟩
theorem mixed : Tryd.prog.follows .mixedOrders = true := by kernel_rfl
theorem sound0 : XS Tryd.prog (Run T0) := run_sound exok mixed tok0
end Go.Ev

/-! Sorting a slice: lists under exchanges, and where they lie. -/
namespace Go.Ev
/-- The parts of a text. -/
def RC.p1 : RC → RC
  | .seq a _ => a
  | c => c
def RC.p2 : RC → RC
  | .seq _ b => b
  | c => c
def RC.p0 : RC → RC
  | .block _ b => b
  | .loop b => b
  | c => c
namespace So
open Go.Ev
set_option linter.unusedVariables false
set_option linter.unusedSimpArgs false

theorem setL_nth {α : Type} : ∀ (vs cs : List α) (o i : Nat), o + vs.length ≤ cs.length → (setL cs o vs)[i]? = if o ≤ i ∧ i < o + vs.length then vs[i - o]? else cs[i]?
  | [], cs, o, i, h => by simp [setL]; intro h1 h2; omega
  | v :: vs, cs, o, i, h => by
    simp only [List.length_cons] at h
    rw [setL, setL_nth vs (cs.set o v) (o + 1) i (by simp; omega)]
    by_cases h1 : o + 1 ≤ i ∧ i < o + 1 + vs.length
    · rw [if_pos h1, if_pos (by simp; omega), show i - o = i - (o + 1) + 1 by omega, List.getElem?_cons_succ]
    · rw [if_neg h1]
      by_cases h2 : i = o
      · subst h2; rw [if_pos (by simp), List.getElem?_set_self (by omega), Nat.sub_self]; rfl
      · rw [if_neg (by simp; omega), List.getElem?_set, if_neg (by omega)]
theorem set_flat {α : Type} {e : Nat} {enc : α → List AV} (he : ∀ x, (enc x).length = e) (z : α) (cs : List AV) : ∀ (L : List α) (i : Nat), i < L.length → setL (L.flatMap enc ++ cs) (i * e) (enc z) = (L.set i z).flatMap enc ++ cs
  | [], i, h => by simp at h
  | x :: L, 0, h => by
    apply List.ext_getElem?
    intro k
    rw [setL_nth _ _ _ _ (by simp [he])]
    simp only [Nat.zero_mul, Nat.zero_le, true_and, Nat.zero_add, Nat.sub_zero, List.set_cons_zero, List.flatMap_cons, List.append_assoc]
    by_cases hk : k < (enc z).length
    · rw [if_pos hk, List.getElem?_append_left hk]
    · rw [if_neg hk, List.getElem?_append_right (l₁ := enc x) (by rw [he] at *; omega), List.getElem?_append_right (l₁ := enc z) (by omega), he, he]
  | x :: L, i + 1, h => by
    have ih := set_flat he z cs L i (by simpa using h)
    have hb : (i + 1) * e ≤ L.length * e := Nat.mul_le_mul_right _ (by simp at h; omega)
    rw [Nat.succ_mul] at hb
    have hfl := flat_len he L
    apply List.ext_getElem?
    intro k
    simp only [List.set_cons_succ, List.flatMap_cons, List.append_assoc]
    rw [setL_nth _ _ _ _ (by simp [he] at hfl ⊢; rw [Nat.succ_mul]; omega)]
    by_cases hk : k < e
    · rw [if_neg (by rw [Nat.succ_mul]; omega), List.getElem?_append_left (by rw [he]; exact hk), List.getElem?_append_left (by rw [he]; exact hk)]
    · rw [List.getElem?_append_right (l₁ := enc x) (by rw [he]; omega), List.getElem?_append_right (l₁ := enc x) (by rw [he]; omega), ← ih, setL_nth _ _ _ _ (by rw [List.length_append, hfl, he]; omega), he, he, Nat.succ_mul]
      by_cases h1 : i * e + e ≤ k ∧ k < i * e + e + e
      · rw [if_pos h1, if_pos (by omega), show k - (i * e + e) = k - e - i * e by omega]
      · rw [if_neg h1, if_neg (by omega)]

/-- A loop, what it comes back to being a mere name. -/
theorem awp_rounds {T : Nat → Option RF} {c : RC} {Q : XE → Env → St → Prop} {e : Env} {s : St} (I : Nat → Env → St → Prop) (d : Nat) (h0 : I d e s)
    (round : ∀ (J : Env → St → Prop) d e s, (∀ d' e' s', d' < d → I d' e' s' → J e' s') → I d e s → awp (Run T) c (loopK J Q) e s) : awp (Run T) (.loop c) Q e s :=
  awp_loop I d h0 fun d e s h => round _ d e s (fun d' e' s' hd hi => ⟨d', hd, hi⟩) h

/-- A function value called in a region that draws its order. -/
def drCalld (T : Nat → Option RF) (n0 : Nat) (d : Option Nat) (v : AV) (xs : List AV) (cl fr : List Nat) (i : Nat) (H : List (Nat × St × St)) (L : List (Nat × Nat)) (e : Env) (s : St) (next : DrK) : Prop := match v with
  | .fn f cs => drCall T n0 d f (xs ++ cs) cl fr i H L e s next
  | _ => False
theorem dr_calldX {T : Nat → Option RF} {n0 : Nat} {bs : List Blk} {d : Option Nat} {g : Option (Nat × Bool)} {x : RX} {xs : List RX} {cl fr : List Nat} {i : Nat} {H : List (Nat × St × St)} {L : List (Nat × Nat)} {e : Env} {s : St} {next : DrK} :
    drStep (Run T) n0 bs ⟨⟨d, g, .calld x xs⟩, .eff, cl, fr⟩ i H L e s next = drCalld T n0 d (x.ev e) (evs e xs) cl fr i H L e s next := by
  simp only [drStep, opA, drCalld]
  cases x.ev e <;> simp <;> rfl
theorem drCalld_fn {T : Nat → Option RF} {n0 : Nat} {d : Option Nat} {f : Nat} {xs : List AV} {cl fr : List Nat} {i : Nat} {H : List (Nat × St × St)} {L : List (Nat × Nat)} {e : Env} {s : St} {next : DrK} : drCalld T n0 d (.fn f []) xs cl fr i H L e s next = drCall T n0 d f xs cl fr i H L e s next := by
  unfold drCalld; simp only [List.append_nil]

/-- dr_call, what is known of the temporaries being put in last. -/
theorem dr_callE {T : Nat → Option RF} {n0 : Nat} {d : Option Nat} {f : Nat} {xs_ : List AV} {cl fr : List Nat} {i : Nat} {H : List (Nat × St × St)} {L : List (Nat × Nat)} {e : Env} {s : St} {next : DrK} {v : AV} (h : RunD T f xs_ s v s)
    (hn : ∀ e', e' = putO e d v → next ((i, s, s) :: H) L e' s) : drCall T n0 d f xs_ cl fr i H L e s next := dr_call h (hn _ rfl)

end So
end Go.Ev

/-! For proofs about functions: strings, bytes, maps, arrays. -/
namespace Go.Ev
set_option linter.unusedVariables false
set_option linter.unusedSimpArgs false

def cviY (k : IntKind) : AV → Option AV
  | .int _ n => some (.int k (k.wrap n))
  | _ => none
def cvsY : AV → Option AV
  | .str s => some (.str s)
  | _ => none
def lensY : AV → Option AV
  | .str s => some (.int .i64 s.size)
  | _ => none
def ixsY (x i : AV) : Option AV := match x, i with
  | .str s, .int _ j => if h : 0 ≤ j ∧ j.toNat < s.size then some (.int .u8 (s[j.toNat]'h.2).toNat) else none
  | _, _ => none
def ixpY (es len : Nat) (x i : AV) : Option AV := match x, i with
  | .ptr b o, .int _ j => if 0 ≤ j ∧ j < (len : Int) then some (.ptr b (o + j.toNat * es)) else none
  | _, _ => none
def ixvY (n : Option Nat) (es len : Nat) (x i : AV) : Option AV := match x, i with
  | .agg cs, .int _ j => if 0 ≤ j ∧ j < (len : Int) then partA n (j.toNat * es) cs else none
  | _, _ => none
def nckY : AV → Option AV
  | .ptr b o => some (.ptr b o)
  | .ifc t v => some (.ifc t v)
  | .fn f cs => some (.fn f cs)
  | _ => none
section
variable {X : Oracle} {e : Env} {s : St} {q : AV → St → Prop}
theorem y_cvi {k : IntKind} {x : RX} : opA X (.cvi k x) e s q = ob (cviY k (x.ev e)) fun v => q v s := rfl
theorem y_cvs {x : RX} : opA X (.cvs x) e s q = ob (cvsY (x.ev e)) fun v => q v s := rfl
theorem y_lens {x : RX} : opA X (.lens x) e s q = ob (lensY (x.ev e)) fun v => q v s := rfl
theorem y_sls {x : RX} {lo hi : Option RX} : opA X (.sls x lo hi) e s q = ob (slsA (x.ev e) (optX e lo) (optX e hi)) fun v => q v s := rfl
theorem y_ixs {x i : RX} : opA X (.ixs x i) e s q = ob (ixsY (x.ev e) (i.ev e)) fun v => q v s := rfl
theorem y_ixp {es len : Nat} {x i : RX} : opA X (.ixp es len x i) e s q = ob (ixpY es len (x.ev e) (i.ev e)) fun v => q v s := rfl
theorem y_ixv {n : Option Nat} {es len : Nat} {x i : RX} : opA X (.ixv n es len x i) e s q = ob (ixvY n es len (x.ev e) (i.ev e)) fun v => q v s := rfl
theorem y_nck {x : RX} : opA X (.nck x) e s q = ob (nckY (x.ev e)) fun v => q v s := rfl
theorem y_xp {o : XP} {xs : List RX} : opA X (.xp o xs) e s q = ob (xpA o (evs e xs)) fun v => q v s := rfl
theorem y_xt {o : XO} {xs : List RX} : opA X (.xt o xs) e s q = ob (xtA s o (evs e xs)) fun r => q r.1 r.2 := rfl
theorem z_cvi {k : IntKind} {x : RX} : pureA (.cvi k x) e = cviY k (x.ev e) := rfl
theorem z_cvs {x : RX} : pureA (.cvs x) e = cvsY (x.ev e) := rfl
theorem z_lens {x : RX} : pureA (.lens x) e = lensY (x.ev e) := rfl
theorem z_sls {x : RX} {lo hi : Option RX} : pureA (.sls x lo hi) e = slsA (x.ev e) (optX e lo) (optX e hi) := rfl
theorem z_ixs {x i : RX} : pureA (.ixs x i) e = ixsY (x.ev e) (i.ev e) := rfl
theorem z_ixp {es len : Nat} {x i : RX} : pureA (.ixp es len x i) e = ixpY es len (x.ev e) (i.ev e) := rfl
theorem z_ixv {n : Option Nat} {es len : Nat} {x i : RX} : pureA (.ixv n es len x i) e = ixvY n es len (x.ev e) (i.ev e) := rfl
theorem z_nck {x : RX} : pureA (.nck x) e = nckY (x.ev e) := rfl
theorem z_xp {o : XP} {xs : List RX} : pureA (.xp o xs) e = xpA o (evs e xs) := rfl
theorem cviY_int {k k' : IntKind} {n : Int} : cviY k (.int k' n) = some (.int k (k.wrap n)) := rfl
theorem cvsY_str {a : ByteArray} : cvsY (.str a) = some (.str a) := rfl
theorem lensY_str {a : ByteArray} : lensY (.str a) = some (.int .i64 a.size) := rfl
theorem nckY_ptr {b o : Nat} : nckY (.ptr b o) = some (.ptr b o) := rfl
theorem nckY_fn {f : Nat} {cs : List AV} : nckY (.fn f cs) = some (.fn f cs) := rfl
/-- an effect of the further ones, in a region that draws its order -/
theorem z_xt {n0 : Nat} {bs : List Blk} {d : Option Nat} {g : Option (Nat × Bool)} {o : XO} {xs : List RX} {cl fr : List Nat} {i : Nat} {H : List (Nat × St × St)} {L : List (Nat × Nat)} {next : DrK} : drStep X n0 bs ⟨⟨d, g, .xt o xs⟩, .eff, cl, fr⟩ i H L e s next =
    ob (xtA s o (evs e xs)) fun r => frOk n0 fr s r.2 ∧ clOk cl L s r.2 ∧ next ((i, s, r.2) :: H) L (putO e d r.1) r.2 := by
  apply propext
  simp only [drStep, opA, ob]
  constructor
  · rintro ⟨v, s', ⟨r, h1, rfl, rfl⟩, h2, h3, h4⟩; exact ⟨r, h1, h2, h3, h4⟩
  · rintro ⟨r, h1, h2, h3, h4⟩; exact ⟨r.1, r.2, ⟨r, h1, rfl, rfl⟩, h2, h3, h4⟩
end
theorem YY : type_of% (And.intro @y_cvi (And.intro @y_cvs (And.intro @y_lens (And.intro @y_sls (And.intro @y_ixs (And.intro @y_ixp (And.intro @y_ixv (And.intro @y_nck (And.intro @y_xp (And.intro @y_xt (And.intro @z_cvi (And.intro @z_cvs (And.intro @z_lens (And.intro @z_sls (And.intro @z_ixs (And.intro @z_ixp (And.intro @z_ixv (And.intro @z_nck (And.intro @z_xp (And.intro @cviY_int (And.intro @cvsY_str (And.intro @lensY_str (And.intro @nckY_ptr (And.intro @nckY_fn @z_xt)))))))))))))))))))))))) :=
  And.intro @y_cvi (And.intro @y_cvs (And.intro @y_lens (And.intro @y_sls (And.intro @y_ixs (And.intro @y_ixp (And.intro @y_ixv (And.intro @y_nck (And.intro @y_xp (And.intro @y_xt (And.intro @z_cvi (And.intro @z_cvs (And.intro @z_lens (And.intro @z_sls (And.intro @z_ixs (And.intro @z_ixp (And.intro @z_ixv (And.intro @z_nck (And.intro @z_xp (And.intro @cviY_int (And.intro @cvsY_str (And.intro @lensY_str (And.intro @nckY_ptr (And.intro @nckY_fn @z_xt)))))))))))))))))))))))
end Go.Ev
