import Derived.Test.YtmkhnefjklfpnaaEvP
import Derived.Test.YtmkhnefjklfpnaaProg
/-! The functions of the program, compiled. Printed by genfs.py, a program of this session, out of what `compF` comes to. -/
namespace Go.Ev
open Go.Proofs
set_option maxRecDepth 100000
abbrev f_gosem_cut_init : Nat := 2
abbrev f_w03_SpanActs : Nat := 3
abbrev f_w03_SpanCounts : Nat := 4
abbrev f_w03_SpanMembers : Nat := 5
abbrev f_w03_SpanOrder : Nat := 6
abbrev f_w03_SpanPlaces : Nat := 7
abbrev f_w03_SpanLess : Nat := 8
abbrev f_w03_SpanMemory : Nat := 9
abbrev f_w03_awake : Nat := 10
abbrev f_span_Put : Nat := 11
abbrev f_r03_Put : Nat := 12
abbrev f_w03_same : Nat := 13
abbrev f_span_Sound : Nat := 14
abbrev f_r03_Sound : Nat := 15
abbrev f_span_Drop : Nat := 16
abbrev f_r03_Drop : Nat := 17
abbrev f_span_Less : Nat := 18
abbrev f_r03_Less : Nat := 19
abbrev f_span_Count : Nat := 20
abbrev f_r03_Count : Nat := 21
abbrev f_span_Nth : Nat := 22
abbrev f_r03_Nth : Nat := 23
abbrev f_span_Has : Nat := 24
abbrev f_r03_Has : Nat := 25
abbrev f_span_Rank : Nat := 26
abbrev f_r03_Rank : Nat := 27
abbrev f_w03_built : Nat := 28
abbrev f_addr_Cmp : Nat := 29
abbrev f_addr_Add : Nat := 30
abbrev f_addr_Sub : Nat := 31
abbrev f_w03_in : Nat := 32
abbrev f_w03_small : Nat := 33
abbrev f_span_isRange : Nat := 34
abbrev f_span_apart : Nat := 35
abbrev f_span_below : Nat := 36
abbrev f_slices_Concat_Range : Nat := 37
abbrev f_r03_le : Nat := 38
abbrev f_r03_made : Nat := 39
abbrev f_r03_next : Nat := 40
abbrev f_span_one : Nat := 41
abbrev f_slices_Clone_Range : Nat := 42
abbrev f_r01_Add : Nat := 43
abbrev f_r03_size : Nat := 44
abbrev f_r01_Sub : Nat := 45
abbrev f_r03_ahead : Nat := 46
abbrev f_slices_ContainsFunc_Range : Nat := 47
abbrev f_span_Has_1 : Nat := 48
abbrev f_r03_in : Nat := 49
abbrev f_cmp_Or_int : Nat := 50
abbrev f_cmp_Compare_uint64 : Nat := 51
abbrev f_slices_Grow_Range : Nat := 54
abbrev f_r01_Cmp : Nat := 55
abbrev f_r03_edges : Nat := 56
abbrev f_r01_bit : Nat := 57
abbrev f_r01_with : Nat := 58
abbrev f_slices_IndexFunc_Range : Nat := 59
abbrev f_cmp_isNaN_uint64 : Nat := 60
abbrev f_r03_with : Nat := 61
/-- gosem.cut.init -/
def r_gosem_cut_init : RF :=
  ⟨1, [], (.reg [⟨(some 0), none, (.call 1 [])⟩])⟩
theorem c_gosem_cut_init : compF Try.prog ⟨some 52, some 53⟩ Try.f2 = some r_gosem_cut_init := by kernel_rfl
/-- tenancy/tenancylaw03.SpanActs -/
def r_w03_SpanActs : RF :=
  ⟨90, [(.tmp 6)], (.seq (.reg [⟨(some 5), none, (.box (some 4) (.t 2))⟩, ⟨(some 6), none, (.mv (.k (.bool false)))⟩]) (.seq (.seq (.reg [⟨(some 11), none, (.call f_w03_awake [])⟩, 
  ⟨(some 12), none, (.un .not (.t 11))⟩]) (.cond (.t 12) (.seq (.reg [⟨(some 6), none, (.mv (.k (.bool false)))⟩]) .ret) .skip)) (.seq (.seq (.reg [⟨(some 13), none, (.mv (.t 0))⟩, 
  ⟨(some 14), none, (.lenl (.t 13))⟩, ⟨(some 15), none, (.bin .gtr (.t 14) (.k (.int .i64 200)))⟩, ⟨(some 16), none, (.mv (.t 15))⟩, ⟨(some 17), (some (16, false)), (.mv (.t 1))⟩, 
  ⟨(some 18), (some (16, false)), (.lenl (.t 17))⟩, ⟨(some 19), (some (16, false)), (.bin .gtr (.t 18) (.k (.int .i64 200)))⟩, 
  ⟨(some 20), none, (.pick (.t 16) (.k (.bool true)) (.t 19))⟩]) (.cond (.t 20) (.seq (.reg [⟨(some 6), none, (.mv (.k (.bool true)))⟩]) .ret) .skip)) (.seq 
  (.reg [⟨(some 22), none, (.mv (.t 0))⟩, ⟨(some 23), none, (.ld (some 4) (.t 5))⟩, ⟨(some 24), none, (.call f_span_Put [(.t 22), (.t 23)])⟩, ⟨(some 21), none, (.mv (.t 24))⟩, 
  ⟨(some 25), none, (.ext 0 (.t 21))⟩, ⟨(some 26), none, (.ext 1 (.t 21))⟩, ⟨(some 7), none, (.mv (.t 25))⟩, ⟨(some 8), none, (.mv (.t 26))⟩]) (.seq 
  (.reg [⟨(some 28), none, (.mv (.t 0))⟩, ⟨(some 29), none, (.ld (some 4) (.t 5))⟩, ⟨(some 30), none, (.call f_r03_Put [(.t 28), (.t 29)])⟩, ⟨(some 27), none, (.mv (.t 30))⟩, 
  ⟨(some 31), none, (.ext 0 (.t 27))⟩, ⟨(some 32), none, (.ext 1 (.t 27))⟩, ⟨(some 9), none, (.mv (.t 31))⟩, ⟨(some 10), none, (.mv (.t 32))⟩]) (.seq (.seq 
  (.reg [⟨(some 33), none, (.mv (.t 7))⟩, ⟨(some 34), none, (.mv (.t 9))⟩, ⟨(some 35), none, (.call f_w03_same [(.t 33), (.t 34)])⟩, ⟨(some 36), none, (.un .not (.t 35))⟩, 
  ⟨(some 37), none, (.mv (.t 36))⟩, ⟨(some 38), (some (37, false)), (.mv (.t 8))⟩, ⟨(some 39), (some (37, false)), (.mv (.t 10))⟩, 
  ⟨(some 40), (some (37, false)), (.eq true .i (.t 38) (.t 39))⟩, ⟨(some 41), none, (.pick (.t 37) (.k (.bool true)) (.t 40))⟩, ⟨(some 42), none, (.mv (.t 41))⟩, 
  ⟨(some 43), (some (42, false)), (.mv (.t 0))⟩, ⟨(some 44), (some (42, false)), (.call f_span_Sound [(.t 43)])⟩, ⟨(some 45), (some (42, false)), (.mv (.t 0))⟩, 
  ⟨(some 46), (some (42, false)), (.call f_r03_Sound [(.t 45)])⟩, ⟨(some 47), (some (42, false)), (.eq true .b (.t 44) (.t 46))⟩, 
  ⟨(some 48), none, (.pick (.t 42) (.k (.bool true)) (.t 47))⟩]) (.cond (.t 48) (.seq (.reg [⟨(some 6), none, (.mv (.k (.bool false)))⟩]) .ret) .skip)) (.seq 
  (.reg [⟨(some 50), none, (.mv (.t 0))⟩, ⟨(some 51), none, (.ld (some 4) (.t 5))⟩, ⟨(some 52), none, (.call f_span_Drop [(.t 50), (.t 51)])⟩, ⟨(some 49), none, (.mv (.t 52))⟩, 
  ⟨(some 53), none, (.ext 0 (.t 49))⟩, ⟨(some 54), none, (.ext 1 (.t 49))⟩, ⟨(some 7), none, (.mv (.t 53))⟩, ⟨(some 8), none, (.mv (.t 54))⟩]) (.seq 
  (.reg [⟨(some 56), none, (.mv (.t 0))⟩, ⟨(some 57), none, (.ld (some 4) (.t 5))⟩, ⟨(some 58), none, (.call f_r03_Drop [(.t 56), (.t 57)])⟩, ⟨(some 55), none, (.mv (.t 58))⟩, 
  ⟨(some 59), none, (.ext 0 (.t 55))⟩, ⟨(some 60), none, (.ext 1 (.t 55))⟩, ⟨(some 9), none, (.mv (.t 59))⟩, ⟨(some 10), none, (.mv (.t 60))⟩]) (.seq (.seq 
  (.reg [⟨(some 61), none, (.mv (.t 7))⟩, ⟨(some 62), none, (.mv (.t 9))⟩, ⟨(some 63), none, (.call f_w03_same [(.t 61), (.t 62)])⟩, ⟨(some 64), none, (.un .not (.t 63))⟩, 
  ⟨(some 65), none, (.mv (.t 64))⟩, ⟨(some 66), (some (65, false)), (.mv (.t 8))⟩, ⟨(some 67), (some (65, false)), (.mv (.t 10))⟩, 
  ⟨(some 68), (some (65, false)), (.eq true .i (.t 66) (.t 67))⟩, ⟨(some 69), none, (.pick (.t 65) (.k (.bool true)) (.t 68))⟩]) (.cond (.t 69) (.seq 
  (.reg [⟨(some 6), none, (.mv (.k (.bool false)))⟩]) .ret) .skip)) (.seq (.reg [⟨(some 71), none, (.mv (.t 0))⟩, ⟨(some 72), none, (.mv (.t 1))⟩, 
  ⟨(some 73), none, (.call f_span_Less [(.t 71), (.t 72)])⟩, ⟨(some 70), none, (.mv (.t 73))⟩, ⟨(some 74), none, (.ext 0 (.t 70))⟩, ⟨(some 75), none, (.ext 1 (.t 70))⟩, 
  ⟨(some 7), none, (.mv (.t 74))⟩, ⟨(some 8), none, (.mv (.t 75))⟩]) (.seq (.reg [⟨(some 77), none, (.mv (.t 0))⟩, ⟨(some 78), none, (.mv (.t 1))⟩, 
  ⟨(some 79), none, (.call f_r03_Less [(.t 77), (.t 78)])⟩, ⟨(some 76), none, (.mv (.t 79))⟩, ⟨(some 80), none, (.ext 0 (.t 76))⟩, ⟨(some 81), none, (.ext 1 (.t 76))⟩, 
  ⟨(some 9), none, (.mv (.t 80))⟩, ⟨(some 10), none, (.mv (.t 81))⟩]) (.seq (.reg [⟨(some 82), none, (.mv (.t 7))⟩, ⟨(some 83), none, (.mv (.t 9))⟩, 
  ⟨(some 84), none, (.call f_w03_same [(.t 82), (.t 83)])⟩, ⟨(some 85), none, (.mv (.t 84))⟩, ⟨(some 86), (some (85, true)), (.mv (.t 8))⟩, 
  ⟨(some 87), (some (85, true)), (.mv (.t 10))⟩, ⟨(some 88), (some (85, true)), (.eq false .i (.t 86) (.t 87))⟩, ⟨(some 89), none, (.pick (.t 85) (.t 88) (.k (.bool false)))⟩, 
  ⟨(some 6), none, (.mv (.t 89))⟩]) .ret))))))))))))⟩
theorem c_w03_SpanActs : compF Try.prog ⟨some 52, some 53⟩ Try.f3 = some r_w03_SpanActs := by kernel_rfl
/-- tenancy/tenancylaw03.SpanCounts -/
def r_w03_SpanCounts : RF :=
  ⟨90, [(.tmp 4)], (.seq (.reg [⟨(some 4), none, (.mv (.k (.bool false)))⟩]) (.seq (.seq (.reg [⟨(some 15), none, (.call f_w03_awake [])⟩, ⟨(some 16), none, (.un .not (.t 15))⟩]) 
  (.cond (.t 16) (.seq (.reg [⟨(some 4), none, (.mv (.k (.bool false)))⟩]) .ret) .skip)) (.seq (.seq (.reg [⟨(some 17), none, (.mv (.t 0))⟩, ⟨(some 18), none, (.lenl (.t 17))⟩, 
  ⟨(some 19), none, (.bin .gtr (.t 18) (.k (.int .i64 200)))⟩]) (.cond (.t 19) (.seq (.reg [⟨(some 4), none, (.mv (.k (.bool true)))⟩]) .ret) .skip)) (.seq 
  (.reg [⟨(some 21), none, (.mv (.t 0))⟩, ⟨(some 22), none, (.call f_span_Count [(.t 21)])⟩, ⟨(some 20), none, (.mv (.t 22))⟩, ⟨(some 23), none, (.ext 0 (.t 20))⟩, 
  ⟨(some 24), none, (.ext 1 (.t 20))⟩, ⟨(some 5), none, (.new [(.int .u64 0), (.int .u64 0)])⟩, ⟨none, none, (.st (some 2) (.t 5) (.t 23))⟩, ⟨(some 6), none, (.mv (.t 24))⟩]) (.seq 
  (.reg [⟨(some 26), none, (.mv (.t 0))⟩, ⟨(some 27), none, (.call f_r03_Count [(.t 26)])⟩, ⟨(some 25), none, (.mv (.t 27))⟩, ⟨(some 28), none, (.ext 0 (.t 25))⟩, 
  ⟨(some 29), none, (.ext 1 (.t 25))⟩, ⟨(some 7), none, (.new [(.int .u64 0), (.int .u64 0)])⟩, ⟨none, none, (.st (some 2) (.t 7) (.t 28))⟩, ⟨(some 8), none, (.mv (.t 29))⟩]) (.seq 
  (.seq (.reg [⟨(some 30), none, (.ld (some 2) (.t 5))⟩, ⟨(some 31), none, (.ld (some 2) (.t 7))⟩, ⟨(some 32), none, (.eq true (.st (.one 0 .i (.one 1 .i .nil))) (.t 30) (.t 31))⟩, 
  ⟨(some 33), none, (.mv (.t 32))⟩, ⟨(some 34), (some (33, false)), (.mv (.t 6))⟩, ⟨(some 35), (some (33, false)), (.mv (.t 8))⟩, 
  ⟨(some 36), (some (33, false)), (.eq true .b (.t 34) (.t 35))⟩, ⟨(some 37), none, (.pick (.t 33) (.k (.bool true)) (.t 36))⟩]) (.cond (.t 37) (.seq 
  (.reg [⟨(some 4), none, (.mv (.k (.bool false)))⟩]) .ret) .skip)) (.seq (.seq (.reg [⟨(some 9), none, (.mv (.k (.int .i64 0)))⟩]) (.block 0 (.loop (.seq (.seq 
  (.reg [⟨(some 38), none, (.mv (.t 9))⟩, ⟨(some 39), none, (.mv (.t 1))⟩, ⟨(some 40), none, (.lenl (.t 39))⟩, ⟨(some 41), none, (.bin .lss (.t 38) (.t 40))⟩, 
  ⟨(some 42), none, (.mv (.t 41))⟩, ⟨(some 43), (some (42, true)), (.mv (.t 9))⟩, ⟨(some 44), (some (42, true)), (.bin .lss (.t 43) (.k (.int .i64 200)))⟩, 
  ⟨(some 45), none, (.pick (.t 42) (.t 44) (.k (.bool false)))⟩]) (.cond (.t 45) .skip (.exit 0))) (.seq (.block 1 (.seq (.reg [⟨(some 48), none, (.mv (.t 1))⟩, 
  ⟨(some 49), none, (.mv (.t 9))⟩, ⟨(some 50), none, (.ixa 2 (.t 48) (.t 49))⟩, ⟨(some 51), none, (.ld (some 2) (.t 50))⟩, ⟨(some 10), none, (.new [(.int .u64 0), (.int .u64 0)])⟩, 
  ⟨none, none, (.st (some 2) (.t 10) (.t 51))⟩]) (.seq (.reg [⟨(some 53), none, (.mv (.t 0))⟩, ⟨(some 54), none, (.ld (some 2) (.t 10))⟩, 
  ⟨(some 55), none, (.call f_span_Nth [(.t 53), (.t 54)])⟩, ⟨(some 52), none, (.mv (.t 55))⟩, ⟨(some 56), none, (.ext 0 (.t 52))⟩, ⟨(some 57), none, (.ext 1 (.t 52))⟩, 
  ⟨(some 11), none, (.new [(.int .u64 0), (.int .u64 0)])⟩, ⟨none, none, (.st (some 2) (.t 11) (.t 56))⟩, ⟨(some 12), none, (.mv (.t 57))⟩]) (.seq 
  (.reg [⟨(some 59), none, (.mv (.t 0))⟩, ⟨(some 60), none, (.ld (some 2) (.t 10))⟩, ⟨(some 61), none, (.call f_r03_Nth [(.t 59), (.t 60)])⟩, ⟨(some 58), none, (.mv (.t 61))⟩, 
  ⟨(some 62), none, (.ext 0 (.t 58))⟩, ⟨(some 63), none, (.ext 1 (.t 58))⟩, ⟨(some 13), none, (.new [(.int .u64 0), (.int .u64 0)])⟩, ⟨none, none, (.st (some 2) (.t 13) (.t 62))⟩, 
  ⟨(some 14), none, (.mv (.t 63))⟩]) (.seq (.drw 0 [⟨⟨(some 64), none, (.ld (some 2) (.t 11))⟩, .ld, [], []⟩, ⟨⟨(some 65), none, (.ld (some 2) (.t 13))⟩, .ld, [], []⟩, 
  ⟨⟨(some 66), none, (.eq true (.st (.one 0 .i (.one 1 .i .nil))) (.t 64) (.t 65))⟩, .pure, [], []⟩, ⟨⟨(some 67), none, (.mv (.t 66))⟩, .pure, [], []⟩, 
  ⟨⟨(some 68), (some (67, false)), (.mv (.t 12))⟩, .pure, [], []⟩, ⟨⟨(some 69), (some (67, false)), (.mv (.t 14))⟩, .pure, [], []⟩, 
  ⟨⟨(some 70), (some (67, false)), (.eq true .b (.t 68) (.t 69))⟩, .pure, [], []⟩, ⟨⟨(some 71), none, (.pick (.t 67) (.k (.bool true)) (.t 70))⟩, .pure, [], []⟩, 
  ⟨⟨(some 72), none, (.mv (.t 71))⟩, .pure, [], []⟩, ⟨⟨(some 73), (some (72, false)), (.mv (.t 0))⟩, .pure, [], []⟩, 
  ⟨⟨(some 74), (some (72, false)), (.ld (some 2) (.t 10))⟩, .ld, [], []⟩, ⟨⟨(some 75), (some (72, false)), (.call f_span_Has [(.t 73), (.t 74)])⟩, .eff, [], []⟩, 
  ⟨⟨(some 76), (some (72, false)), (.mv (.t 0))⟩, .pure, [10], []⟩, ⟨⟨(some 77), (some (72, false)), (.ld (some 2) (.t 10))⟩, .ld, [11], []⟩, 
  ⟨⟨(some 78), (some (72, false)), (.call f_r03_Has [(.t 76), (.t 77)])⟩, .eff, [], []⟩, ⟨⟨(some 79), (some (72, false)), (.eq true .b (.t 75) (.t 78))⟩, .pure, [], []⟩, 
  ⟨⟨(some 80), none, (.pick (.t 72) (.k (.bool true)) (.t 79))⟩, .pure, [], []⟩, ⟨⟨(some 81), none, (.mv (.t 80))⟩, .pure, [], []⟩, 
  ⟨⟨(some 82), (some (81, false)), (.mv (.t 0))⟩, .pure, [], []⟩, ⟨⟨(some 83), (some (81, false)), (.ld (some 2) (.t 10))⟩, .ld, [], []⟩, 
  ⟨⟨(some 84), (some (81, false)), (.call f_span_Rank [(.t 82), (.t 83)])⟩, .eff, [], []⟩, ⟨⟨(some 85), (some (81, false)), (.mv (.t 0))⟩, .pure, [19], []⟩, 
  ⟨⟨(some 86), (some (81, false)), (.ld (some 2) (.t 10))⟩, .ld, [20], []⟩, ⟨⟨(some 87), (some (81, false)), (.call f_r03_Rank [(.t 85), (.t 86)])⟩, .eff, [], []⟩, 
  ⟨⟨(some 88), (some (81, false)), (.eq true (.st (.one 0 .i (.one 1 .i .nil))) (.t 84) (.t 87))⟩, .pure, [], []⟩, 
  ⟨⟨(some 89), none, (.pick (.t 81) (.k (.bool true)) (.t 88))⟩, .pure, [], []⟩]) (.cond (.t 89) (.seq (.reg [⟨(some 4), none, (.mv (.k (.bool false)))⟩]) .ret) .skip)))))) 
  (.reg [⟨(some 46), none, (.mv (.t 9))⟩, ⟨(some 47), none, (.bin .add (.t 46) (.k (.int .i64 1)))⟩, ⟨(some 9), none, (.mv (.t 47))⟩])))))) (.seq 
  (.reg [⟨(some 4), none, (.mv (.k (.bool true)))⟩]) .ret))))))))⟩
theorem c_w03_SpanCounts : compF Try.prog ⟨some 52, some 53⟩ Try.f4 = some r_w03_SpanCounts := by kernel_rfl
/-- tenancy/tenancylaw03.SpanMembers -/
def r_w03_SpanMembers : RF :=
  ⟨146, [(.tmp 6)], (.seq (.reg [⟨(some 4), none, (.box (some 4) (.t 1))⟩, ⟨(some 5), none, (.box (some 2) (.t 2))⟩, ⟨(some 6), none, (.mv (.k (.bool false)))⟩]) (.seq (.seq 
  (.reg [⟨(some 21), none, (.call f_w03_awake [])⟩, ⟨(some 22), none, (.un .not (.t 21))⟩]) (.cond (.t 22) (.seq (.reg [⟨(some 6), none, (.mv (.k (.bool false)))⟩]) .ret) .skip)) 
  (.seq (.reg [⟨(some 23), none, (.mv (.t 0))⟩, ⟨(some 24), none, (.call f_w03_built [(.t 23)])⟩, ⟨(some 7), none, (.mv (.t 24))⟩]) (.seq (.seq 
  (.reg [⟨(some 25), none, (.mv (.t 7))⟩, ⟨(some 26), none, (.call f_span_Sound [(.t 25)])⟩, ⟨(some 27), none, (.un .not (.t 26))⟩]) (.cond (.t 27) (.seq 
  (.reg [⟨(some 6), none, (.mv (.k (.bool false)))⟩]) .ret) .skip)) (.seq (.reg [⟨(some 29), none, (.mv (.t 7))⟩, ⟨(some 30), none, (.ld (some 4) (.t 4))⟩, 
  ⟨(some 31), none, (.call f_span_Put [(.t 29), (.t 30)])⟩, ⟨(some 28), none, (.mv (.t 31))⟩, ⟨(some 32), none, (.ext 0 (.t 28))⟩, ⟨(some 33), none, (.ext 1 (.t 28))⟩, 
  ⟨(some 8), none, (.mv (.t 32))⟩, ⟨(some 9), none, (.mv (.t 33))⟩]) (.seq (.reg [⟨(some 35), none, (.mv (.t 7))⟩, ⟨(some 36), none, (.ld (some 4) (.t 4))⟩, 
  ⟨(some 37), none, (.call f_span_Drop [(.t 35), (.t 36)])⟩, ⟨(some 34), none, (.mv (.t 37))⟩, ⟨(some 38), none, (.ext 0 (.t 34))⟩, ⟨(some 39), none, (.ext 1 (.t 34))⟩, 
  ⟨(some 10), none, (.mv (.t 38))⟩, ⟨(some 11), none, (.mv (.t 39))⟩]) (.seq (.seq (.reg [⟨(some 40), none, (.off 0 (.t 4))⟩, ⟨(some 41), none, (.ld (some 2) (.t 40))⟩, 
  ⟨(some 42), none, (.off 2 (.t 4))⟩, ⟨(some 43), none, (.ld (some 2) (.t 42))⟩, ⟨(some 44), none, (.call f_addr_Cmp [(.t 41), (.t 43)])⟩, 
  ⟨(some 45), none, (.bin .gtr (.t 44) (.k (.int .i64 0)))⟩]) (.cond (.t 45) (.seq (.reg [⟨(some 46), none, (.mv (.t 9))⟩, 
  ⟨(some 47), none, (.eq false .i (.t 46) (.k (.int .i64 1)))⟩, ⟨(some 48), none, (.mv (.t 47))⟩, ⟨(some 49), (some (48, true)), (.mv (.t 11))⟩, 
  ⟨(some 50), (some (48, true)), (.eq false .i (.t 49) (.k (.int .i64 1)))⟩, ⟨(some 51), none, (.pick (.t 48) (.t 50) (.k (.bool false)))⟩, ⟨(some 52), none, (.mv (.t 51))⟩, 
  ⟨(some 53), (some (52, true)), (.mv (.t 8))⟩, ⟨(some 54), (some (52, true)), (.lenl (.t 53))⟩, ⟨(some 55), (some (52, true)), (.eq false .i (.t 54) (.k (.int .i64 0)))⟩, 
  ⟨(some 56), none, (.pick (.t 52) (.t 55) (.k (.bool false)))⟩, ⟨(some 57), none, (.mv (.t 56))⟩, ⟨(some 58), (some (57, true)), (.mv (.t 10))⟩, 
  ⟨(some 59), (some (57, true)), (.lenl (.t 58))⟩, ⟨(some 60), (some (57, true)), (.eq false .i (.t 59) (.k (.int .i64 0)))⟩, 
  ⟨(some 61), none, (.pick (.t 57) (.t 60) (.k (.bool false)))⟩, ⟨(some 6), none, (.mv (.t 61))⟩]) .ret) .skip)) (.seq (.seq (.reg [⟨(some 62), none, (.mv (.t 9))⟩, 
  ⟨(some 63), none, (.eq true .i (.t 62) (.k (.int .i64 0)))⟩, ⟨(some 64), none, (.mv (.t 63))⟩, ⟨(some 65), (some (64, false)), (.mv (.t 11))⟩, 
  ⟨(some 66), (some (64, false)), (.eq true .i (.t 65) (.k (.int .i64 0)))⟩, ⟨(some 67), none, (.pick (.t 64) (.k (.bool true)) (.t 66))⟩, ⟨(some 68), none, (.mv (.t 67))⟩, 
  ⟨(some 69), (some (68, false)), (.mv (.t 8))⟩, ⟨(some 70), (some (68, false)), (.call f_span_Sound [(.t 69)])⟩, ⟨(some 71), (some (68, false)), (.un .not (.t 70))⟩, 
  ⟨(some 72), none, (.pick (.t 68) (.k (.bool true)) (.t 71))⟩, ⟨(some 73), none, (.mv (.t 72))⟩, ⟨(some 74), (some (73, false)), (.mv (.t 10))⟩, 
  ⟨(some 75), (some (73, false)), (.call f_span_Sound [(.t 74)])⟩, ⟨(some 76), (some (73, false)), (.un .not (.t 75))⟩, 
  ⟨(some 77), none, (.pick (.t 73) (.k (.bool true)) (.t 76))⟩]) (.cond (.t 77) (.seq (.reg [⟨(some 6), none, (.mv (.k (.bool false)))⟩]) .ret) .skip)) (.seq 
  (.reg [⟨(some 79), none, (.off 2 (.t 4))⟩, ⟨(some 80), none, (.ld (some 2) (.t 79))⟩, ⟨(some 81), none, (.bld [(.int .u64 0), (.int .u64 0)] [(1, (1, (.k (.int .u64 1))))])⟩, 
  ⟨(some 82), none, (.call f_addr_Add [(.t 80), (.t 81)])⟩, ⟨(some 78), none, (.mv (.t 82))⟩, ⟨(some 83), none, (.ext 0 (.t 78))⟩, ⟨(some 84), none, (.ext 1 (.t 78))⟩, 
  ⟨(some 12), none, (.new [(.int .u64 0), (.int .u64 0)])⟩, ⟨none, none, (.st (some 2) (.t 12) (.t 83))⟩, ⟨(some 13), none, (.mv (.t 84))⟩]) (.seq 
  (.reg [⟨(some 86), none, (.off 0 (.t 4))⟩, ⟨(some 87), none, (.ld (some 2) (.t 86))⟩, ⟨(some 88), none, (.bld [(.int .u64 0), (.int .u64 0)] [(1, (1, (.k (.int .u64 1))))])⟩, 
  ⟨(some 89), none, (.call f_addr_Sub [(.t 87), (.t 88)])⟩, ⟨(some 85), none, (.mv (.t 89))⟩, ⟨(some 90), none, (.ext 0 (.t 85))⟩, ⟨(some 91), none, (.ext 1 (.t 85))⟩, 
  ⟨(some 14), none, (.new [(.int .u64 0), (.int .u64 0)])⟩, ⟨none, none, (.st (some 2) (.t 14) (.t 90))⟩, ⟨(some 15), none, (.mv (.t 91))⟩]) (.seq 
  (.reg [⟨(some 92), none, (.ld (some 2) (.t 5))⟩, ⟨(some 93), none, (.off 0 (.t 4))⟩, ⟨(some 94), none, (.ld (some 2) (.t 93))⟩, ⟨(some 95), none, (.off 2 (.t 4))⟩, 
  ⟨(some 96), none, (.ld (some 2) (.t 95))⟩, ⟨(some 97), none, (.ld (some 2) (.t 12))⟩, ⟨(some 98), none, (.ld (some 2) (.t 14))⟩, 
  ⟨(some 99), none, (.bld [(.int .u64 0), (.int .u64 0), (.int .u64 0), (.int .u64 0), (.int .u64 0), (.int .u64 0), (.int .u64 0), (.int .u64 0), (.int .u64 0), (.int .u64 0)] [(0, (2, (.t 92))), (2, (2, (.t 94))), (4, (2, (.t 96))), (6, (2, (.t 97))), (8, (2, (.t 98)))])⟩, 
  ⟨(some 16), none, (.new [(.int .u64 0), (.int .u64 0), (.int .u64 0), (.int .u64 0), (.int .u64 0), (.int .u64 0), (.int .u64 0), (.int .u64 0), (.int .u64 0), (.int .u64 0)])⟩, 
  ⟨none, none, (.st (some 10) (.t 16) (.t 99))⟩]) (.seq (.seq (.reg [⟨(some 17), none, (.mv (.k (.int .i64 0)))⟩]) (.block 0 (.loop (.seq (.seq 
  (.reg [⟨(some 100), none, (.mv (.t 17))⟩, ⟨(some 101), none, (.bin .lss (.t 100) (.k (.int .i64 5)))⟩]) (.cond (.t 101) .skip (.exit 0))) (.seq (.block 1 (.seq 
  (.reg [⟨(some 104), none, (.mv (.t 17))⟩, ⟨(some 105), none, (.ixp 2 5 (.t 16) (.t 104))⟩, ⟨(some 106), none, (.ld (some 2) (.t 105))⟩, 
  ⟨(some 18), none, (.new [(.int .u64 0), (.int .u64 0)])⟩, ⟨none, none, (.st (some 2) (.t 18) (.t 106))⟩]) (.seq (.reg [⟨(some 107), none, (.mv (.t 7))⟩, 
  ⟨(some 108), none, (.ld (some 2) (.t 18))⟩, ⟨(some 109), none, (.call f_span_Has [(.t 107), (.t 108)])⟩, ⟨(some 19), none, (.mv (.t 109))⟩]) (.seq 
  (.reg [⟨(some 110), none, (.mv (.t 8))⟩, ⟨(some 111), none, (.ld (some 2) (.t 18))⟩, ⟨(some 112), none, (.call f_span_Has [(.t 110), (.t 111)])⟩, 
  ⟨(some 113), none, (.mv (.t 19))⟩, ⟨(some 114), none, (.mv (.t 113))⟩, ⟨(some 115), (some (114, false)), (.ld (some 4) (.t 4))⟩, 
  ⟨(some 116), (some (114, false)), (.ld (some 2) (.t 18))⟩, ⟨(some 117), (some (114, false)), (.call f_w03_in [(.t 115), (.t 116)])⟩, 
  ⟨(some 118), none, (.pick (.t 114) (.k (.bool true)) (.t 117))⟩, ⟨(some 119), none, (.eq true .b (.t 112) (.t 118))⟩, ⟨(some 120), none, (.mv (.t 119))⟩, 
  ⟨(some 121), (some (120, false)), (.mv (.t 10))⟩, ⟨(some 122), (some (120, false)), (.ld (some 2) (.t 18))⟩, 
  ⟨(some 123), (some (120, false)), (.call f_span_Has [(.t 121), (.t 122)])⟩, ⟨(some 124), (some (120, false)), (.mv (.t 19))⟩, ⟨(some 125), (some (120, false)), (.mv (.t 124))⟩, 
  ⟨(some 126), (some (125, true)), (.ld (some 4) (.t 4))⟩, ⟨(some 127), (some (125, true)), (.ld (some 2) (.t 18))⟩, 
  ⟨(some 128), (some (125, true)), (.call f_w03_in [(.t 126), (.t 127)])⟩, ⟨(some 129), (some (125, true)), (.un .not (.t 128))⟩, 
  ⟨(some 130), (some (120, false)), (.pick (.t 125) (.t 129) (.k (.bool false)))⟩, ⟨(some 131), (some (120, false)), (.eq true .b (.t 123) (.t 130))⟩, 
  ⟨(some 132), none, (.pick (.t 120) (.k (.bool true)) (.t 131))⟩]) (.cond (.t 132) (.seq (.reg [⟨(some 6), none, (.mv (.k (.bool false)))⟩]) .ret) .skip))))) 
  (.reg [⟨(some 102), none, (.mv (.t 17))⟩, ⟨(some 103), none, (.bin .add (.t 102) (.k (.int .i64 1)))⟩, ⟨(some 17), none, (.mv (.t 103))⟩])))))) (.seq 
  (.reg [⟨(some 134), none, (.mv (.t 10))⟩, ⟨(some 135), none, (.ld (some 4) (.t 4))⟩, ⟨(some 136), none, (.call f_span_Put [(.t 134), (.t 135)])⟩, 
  ⟨(some 133), none, (.mv (.t 136))⟩, ⟨(some 137), none, (.ext 0 (.t 133))⟩, ⟨(some 138), none, (.ext 1 (.t 133))⟩, ⟨(some 20), none, (.mv (.t 137))⟩, 
  ⟨(some 9), none, (.mv (.t 138))⟩]) (.seq (.reg [⟨(some 139), none, (.mv (.t 9))⟩, ⟨(some 140), none, (.eq false .i (.t 139) (.k (.int .i64 0)))⟩, 
  ⟨(some 141), none, (.mv (.t 140))⟩, ⟨(some 142), (some (141, true)), (.mv (.t 20))⟩, ⟨(some 143), (some (141, true)), (.mv (.t 8))⟩, 
  ⟨(some 144), (some (141, true)), (.call f_w03_same [(.t 142), (.t 143)])⟩, ⟨(some 145), none, (.pick (.t 141) (.t 144) (.k (.bool false)))⟩, 
  ⟨(some 6), none, (.mv (.t 145))⟩]) .ret))))))))))))))⟩
theorem c_w03_SpanMembers : compF Try.prog ⟨some 52, some 53⟩ Try.f5 = some r_w03_SpanMembers := by kernel_rfl
/-- tenancy/tenancylaw03.SpanOrder -/
def r_w03_SpanOrder : RF :=
  ⟨56, [(.tmp 2)], (.seq (.reg [⟨(some 2), none, (.mv (.k (.bool false)))⟩]) (.seq (.seq (.reg [⟨(some 8), none, (.call f_w03_awake [])⟩, ⟨(some 9), none, (.un .not (.t 8))⟩]) 
  (.cond (.t 9) (.seq (.reg [⟨(some 2), none, (.mv (.k (.bool false)))⟩]) .ret) .skip)) (.seq (.reg [⟨(some 10), none, (.mv (.t 0))⟩, ⟨(some 11), none, (.lenl (.t 10))⟩, 
  ⟨(some 3), none, (.mv (.t 11))⟩]) (.seq (.seq (.reg [⟨(some 12), none, (.mv (.t 3))⟩, ⟨(some 13), none, (.bin .gtr (.t 12) (.k (.int .i64 200)))⟩]) (.cond (.t 13) 
  (.reg [⟨(some 3), none, (.mv (.k (.int .i64 200)))⟩]) .skip)) (.seq (.reg [⟨(some 14), none, (.mv (.t 0))⟩, ⟨(some 15), none, (.mv (.t 3))⟩, 
  ⟨(some 16), none, (.slc 4 (.t 14) none (some (.t 15)) none)⟩, ⟨(some 17), none, (.call f_w03_built [(.t 16)])⟩, ⟨(some 4), none, (.mv (.t 17))⟩]) (.seq 
  (.reg [⟨(some 18), none, (.mv (.t 3))⟩, ⟨(some 19), none, (.mks 4 32 [(.int .u64 0), (.int .u64 0), (.int .u64 0), (.int .u64 0)] (.k (.int .i64 0)) (.t 18))⟩, 
  ⟨(some 5), none, (.mv (.t 19))⟩]) (.seq (.seq (.reg [⟨(some 20), none, (.mv (.t 3))⟩, ⟨(some 21), none, (.bin .sub (.t 20) (.k (.int .i64 1)))⟩, ⟨(some 6), none, (.mv (.t 21))⟩]) 
  (.block 0 (.loop (.seq (.seq (.reg [⟨(some 22), none, (.mv (.t 6))⟩, ⟨(some 23), none, (.bin .geq (.t 22) (.k (.int .i64 0)))⟩]) (.cond (.t 23) .skip (.exit 0))) (.seq (.block 1 
  (.reg [⟨(some 26), none, (.mv (.t 5))⟩, ⟨(some 27), none, (.mv (.t 0))⟩, ⟨(some 28), none, (.mv (.t 6))⟩, ⟨(some 29), none, (.ixa 4 (.t 27) (.t 28))⟩, 
  ⟨(some 30), none, (.ld (some 4) (.t 29))⟩, ⟨(some 31), none, (.bsl 4 1 [(.int .u64 0), (.int .u64 0), (.int .u64 0), (.int .u64 0)] [(0, (4, (.t 30)))])⟩, 
  ⟨(some 32), none, (.app 4 32 (.t 26) (.t 31))⟩, ⟨(some 5), none, (.mv (.t 32))⟩])) (.reg [⟨(some 24), none, (.mv (.t 6))⟩, 
  ⟨(some 25), none, (.bin .sub (.t 24) (.k (.int .i64 1)))⟩, ⟨(some 6), none, (.mv (.t 25))⟩])))))) (.seq 
  (.reg [⟨(some 33), none, (.bsl 4 0 [(.int .u64 0), (.int .u64 0), (.int .u64 0), (.int .u64 0)] [])⟩, ⟨(some 34), none, (.mv (.t 0))⟩, ⟨(some 35), none, (.mv (.t 3))⟩, 
  ⟨(some 36), none, (.slc 4 (.t 34) none (some (.t 35)) none)⟩, ⟨(some 37), none, (.app 4 32 (.t 33) (.t 36))⟩, ⟨(some 38), none, (.mv (.t 4))⟩, 
  ⟨(some 39), none, (.app 4 32 (.t 37) (.t 38))⟩, ⟨(some 7), none, (.mv (.t 39))⟩]) (.seq (.seq (.reg [⟨(some 40), none, (.mv (.t 7))⟩, ⟨(some 41), none, (.lenl (.t 40))⟩, 
  ⟨(some 42), none, (.bin .gtr (.t 41) (.k (.int .i64 200)))⟩]) (.cond (.t 42) (.reg [⟨(some 43), none, (.mv (.t 7))⟩, ⟨(some 44), none, (.mv (.t 3))⟩, 
  ⟨(some 45), none, (.slc 4 (.t 43) none (some (.t 44)) none)⟩, ⟨(some 7), none, (.mv (.t 45))⟩]) .skip)) (.seq (.reg [⟨(some 46), none, (.mv (.t 4))⟩, 
  ⟨(some 47), none, (.mv (.t 5))⟩, ⟨(some 48), none, (.call f_w03_built [(.t 47)])⟩, ⟨(some 49), none, (.call f_w03_same [(.t 46), (.t 48)])⟩, ⟨(some 50), none, (.mv (.t 49))⟩, 
  ⟨(some 51), (some (50, true)), (.mv (.t 4))⟩, ⟨(some 52), (some (50, true)), (.mv (.t 7))⟩, ⟨(some 53), (some (50, true)), (.call f_w03_built [(.t 52)])⟩, 
  ⟨(some 54), (some (50, true)), (.call f_w03_same [(.t 51), (.t 53)])⟩, ⟨(some 55), none, (.pick (.t 50) (.t 54) (.k (.bool false)))⟩, 
  ⟨(some 2), none, (.mv (.t 55))⟩]) .ret))))))))))⟩
theorem c_w03_SpanOrder : compF Try.prog ⟨some 52, some 53⟩ Try.f6 = some r_w03_SpanOrder := by kernel_rfl
/-- tenancy/tenancylaw03.SpanPlaces -/
def r_w03_SpanPlaces : RF :=
  ⟨89, [(.tmp 6)], (.seq (.reg [⟨(some 4), none, (.box (some 2) (.t 1))⟩, ⟨(some 5), none, (.box (some 2) (.t 2))⟩, ⟨(some 6), none, (.mv (.k (.bool false)))⟩]) (.seq (.seq 
  (.reg [⟨(some 14), none, (.call f_w03_awake [])⟩, ⟨(some 15), none, (.un .not (.t 14))⟩]) (.cond (.t 15) (.seq (.reg [⟨(some 6), none, (.mv (.k (.bool false)))⟩]) .ret) .skip)) 
  (.seq (.reg [⟨(some 16), none, (.mv (.t 0))⟩, ⟨(some 17), none, (.call f_w03_built [(.t 16)])⟩, ⟨(some 7), none, (.mv (.t 17))⟩]) (.seq (.reg [⟨(some 19), none, (.mv (.t 7))⟩, 
  ⟨(some 20), none, (.call f_span_Count [(.t 19)])⟩, ⟨(some 18), none, (.mv (.t 20))⟩, ⟨(some 21), none, (.ext 0 (.t 18))⟩, ⟨(some 22), none, (.ext 1 (.t 18))⟩, 
  ⟨(some 8), none, (.new [(.int .u64 0), (.int .u64 0)])⟩, ⟨none, none, (.st (some 2) (.t 8) (.t 21))⟩, ⟨(some 9), none, (.mv (.t 22))⟩]) (.seq 
  (.reg [⟨(some 24), none, (.mv (.t 7))⟩, ⟨(some 25), none, (.ld (some 2) (.t 4))⟩, ⟨(some 26), none, (.call f_span_Nth [(.t 24), (.t 25)])⟩, ⟨(some 23), none, (.mv (.t 26))⟩, 
  ⟨(some 27), none, (.ext 0 (.t 23))⟩, ⟨(some 28), none, (.ext 1 (.t 23))⟩, ⟨(some 10), none, (.new [(.int .u64 0), (.int .u64 0)])⟩, ⟨none, none, (.st (some 2) (.t 10) (.t 27))⟩, 
  ⟨(some 11), none, (.mv (.t 28))⟩]) (.seq (.seq (.drw 0 [⟨⟨(some 29), none, (.mv (.t 11))⟩, .pure, [], []⟩, ⟨⟨(some 30), none, (.mv (.t 9))⟩, .pure, [], []⟩, 
  ⟨⟨(some 31), none, (.mv (.t 30))⟩, .pure, [], []⟩, ⟨⟨(some 32), (some (31, false)), (.ld (some 2) (.t 4))⟩, .ld, [], []⟩, 
  ⟨⟨(some 33), (some (31, false)), (.ld (some 2) (.t 8))⟩, .ld, [], []⟩, ⟨⟨(some 34), (some (31, false)), (.call f_addr_Cmp [(.t 32), (.t 33)])⟩, .eff, [], []⟩, 
  ⟨⟨(some 35), (some (31, false)), (.bin .lss (.t 34) (.k (.int .i64 0)))⟩, .pure, [], []⟩, ⟨⟨(some 36), none, (.pick (.t 31) (.k (.bool true)) (.t 35))⟩, .pure, [], []⟩, 
  ⟨⟨(some 37), none, (.eq true .b (.t 29) (.t 36))⟩, .pure, [], []⟩, ⟨⟨(some 38), none, (.mv (.t 37))⟩, .pure, [], []⟩, 
  ⟨⟨(some 39), (some (38, false)), (.mv (.t 11))⟩, .pure, [], []⟩, ⟨⟨(some 40), (some (38, false)), (.mv (.t 39))⟩, .pure, [], []⟩, 
  ⟨⟨(some 41), (some (40, true)), (.mv (.t 7))⟩, .pure, [], []⟩, ⟨⟨(some 42), (some (40, true)), (.ld (some 2) (.t 10))⟩, .ld, [], []⟩, 
  ⟨⟨(some 43), (some (40, true)), (.call f_span_Has [(.t 41), (.t 42)])⟩, .eff, [], []⟩, ⟨⟨(some 44), (some (40, true)), (.un .not (.t 43))⟩, .pure, [], []⟩, 
  ⟨⟨(some 45), (some (40, true)), (.mv (.t 44))⟩, .pure, [], []⟩, ⟨⟨(some 46), (some (45, false)), (.mv (.t 7))⟩, .pure, [], []⟩, 
  ⟨⟨(some 47), (some (45, false)), (.ld (some 2) (.t 10))⟩, .ld, [], []⟩, ⟨⟨(some 48), (some (45, false)), (.call f_span_Rank [(.t 46), (.t 47)])⟩, .eff, [], []⟩, 
  ⟨⟨(some 49), (some (45, false)), (.ld (some 2) (.t 4))⟩, .ld, [19], []⟩, 
  ⟨⟨(some 50), (some (45, false)), (.eq true (.st (.one 0 .i (.one 1 .i .nil))) (.t 48) (.t 49))⟩, .pure, [], []⟩, 
  ⟨⟨(some 51), (some (40, true)), (.pick (.t 45) (.k (.bool true)) (.t 50))⟩, .pure, [], []⟩, 
  ⟨⟨(some 52), (some (38, false)), (.pick (.t 40) (.t 51) (.k (.bool false)))⟩, .pure, [], []⟩, ⟨⟨(some 53), none, (.pick (.t 38) (.k (.bool true)) (.t 52))⟩, .pure, [], []⟩, 
  ⟨⟨(some 54), none, (.mv (.t 53))⟩, .pure, [], []⟩, ⟨⟨(some 55), (some (54, false)), (.mv (.t 11))⟩, .pure, [], []⟩, 
  ⟨⟨(some 56), (some (54, false)), (.un .not (.t 55))⟩, .pure, [], []⟩, ⟨⟨(some 57), (some (54, false)), (.mv (.t 56))⟩, .pure, [], []⟩, 
  ⟨⟨(some 58), (some (57, true)), (.ld (some 2) (.t 10))⟩, .ld, [], []⟩, ⟨⟨(some 59), (some (57, true)), (.bld [(.int .u64 0), (.int .u64 0)] [])⟩, .pure, [29], []⟩, 
  ⟨⟨(some 60), (some (57, true)), (.eq true (.st (.one 0 .i (.one 1 .i .nil))) (.t 58) (.t 59))⟩, .pure, [], []⟩, 
  ⟨⟨(some 61), (some (54, false)), (.pick (.t 57) (.t 60) (.k (.bool false)))⟩, .pure, [], []⟩, ⟨⟨(some 62), none, (.pick (.t 54) (.k (.bool true)) (.t 61))⟩, .pure, [], []⟩]) 
  (.cond (.t 62) (.seq (.reg [⟨(some 6), none, (.mv (.k (.bool false)))⟩]) .ret) .skip)) (.seq (.reg [⟨(some 63), none, (.mv (.t 7))⟩, ⟨(some 64), none, (.ld (some 2) (.t 5))⟩, 
  ⟨(some 65), none, (.call f_span_Rank [(.t 63), (.t 64)])⟩, ⟨(some 12), none, (.new [(.int .u64 0), (.int .u64 0)])⟩, ⟨none, none, (.st (some 2) (.t 12) (.t 65))⟩]) (.seq 
  (.reg [⟨(some 67), none, (.mv (.t 7))⟩, ⟨(some 68), none, (.ld (some 2) (.t 12))⟩, ⟨(some 69), none, (.call f_span_Nth [(.t 67), (.t 68)])⟩, ⟨(some 66), none, (.mv (.t 69))⟩, 
  ⟨(some 70), none, (.ext 0 (.t 66))⟩, ⟨(some 71), none, (.ext 1 (.t 66))⟩, ⟨(some 13), none, (.new [(.int .u64 0), (.int .u64 0)])⟩, ⟨none, none, (.st (some 2) (.t 13) (.t 70))⟩, 
  ⟨(some 11), none, (.mv (.t 71))⟩]) (.seq (.seq (.reg [⟨(some 72), none, (.mv (.t 7))⟩, ⟨(some 73), none, (.ld (some 2) (.t 5))⟩, 
  ⟨(some 74), none, (.call f_span_Has [(.t 72), (.t 73)])⟩]) (.cond (.t 74) (.seq (.reg [⟨(some 75), none, (.mv (.t 11))⟩, ⟨(some 76), none, (.mv (.t 75))⟩, 
  ⟨(some 77), (some (76, true)), (.ld (some 2) (.t 13))⟩, ⟨(some 78), (some (76, true)), (.ld (some 2) (.t 5))⟩, 
  ⟨(some 79), (some (76, true)), (.eq false (.st (.one 0 .i (.one 1 .i .nil))) (.t 77) (.t 78))⟩, ⟨(some 80), none, (.pick (.t 76) (.t 79) (.k (.bool false)))⟩, 
  ⟨(some 6), none, (.mv (.t 80))⟩]) .ret) .skip)) (.seq (.reg [⟨(some 81), none, (.mv (.t 11))⟩, ⟨(some 82), none, (.un .not (.t 81))⟩, ⟨(some 83), none, (.mv (.t 82))⟩, 
  ⟨(some 84), (some (83, false)), (.ld (some 2) (.t 13))⟩, ⟨(some 85), (some (83, false)), (.ld (some 2) (.t 5))⟩, 
  ⟨(some 86), (some (83, false)), (.call f_addr_Cmp [(.t 84), (.t 85)])⟩, ⟨(some 87), (some (83, false)), (.bin .gtr (.t 86) (.k (.int .i64 0)))⟩, 
  ⟨(some 88), none, (.pick (.t 83) (.k (.bool true)) (.t 87))⟩, ⟨(some 6), none, (.mv (.t 88))⟩]) .ret))))))))))⟩
theorem c_w03_SpanPlaces : compF Try.prog ⟨some 52, some 53⟩ Try.f7 = some r_w03_SpanPlaces := by kernel_rfl
/-- tenancy/tenancylaw03.SpanLess -/
def r_w03_SpanLess : RF :=
  ⟨125, [(.tmp 6)], (.seq (.reg [⟨(some 5), none, (.box (some 2) (.t 2))⟩, ⟨(some 6), none, (.mv (.k (.bool false)))⟩]) (.seq (.seq (.reg [⟨(some 23), none, (.call f_w03_awake [])⟩, 
  ⟨(some 24), none, (.un .not (.t 23))⟩]) (.cond (.t 24) (.seq (.reg [⟨(some 6), none, (.mv (.k (.bool false)))⟩]) .ret) .skip)) (.seq (.reg [⟨(some 25), none, (.mv (.t 0))⟩, 
  ⟨(some 26), none, (.call f_w03_built [(.t 25)])⟩, ⟨(some 7), none, (.mv (.t 26))⟩]) (.seq (.reg [⟨(some 27), none, (.mv (.t 1))⟩, ⟨(some 28), none, (.call f_w03_built [(.t 27)])⟩, 
  ⟨(some 8), none, (.mv (.t 28))⟩]) (.seq (.reg [⟨(some 30), none, (.mv (.t 7))⟩, ⟨(some 31), none, (.mv (.t 8))⟩, ⟨(some 32), none, (.call f_span_Less [(.t 30), (.t 31)])⟩, 
  ⟨(some 29), none, (.mv (.t 32))⟩, ⟨(some 33), none, (.ext 0 (.t 29))⟩, ⟨(some 34), none, (.ext 1 (.t 29))⟩, ⟨(some 9), none, (.mv (.t 33))⟩, ⟨(some 10), none, (.mv (.t 34))⟩]) 
  (.seq (.reg [⟨(some 36), none, (.mv (.t 7))⟩, ⟨(some 37), none, (.mv (.t 7))⟩, ⟨(some 38), none, (.call f_span_Less [(.t 36), (.t 37)])⟩, ⟨(some 35), none, (.mv (.t 38))⟩, 
  ⟨(some 39), none, (.ext 0 (.t 35))⟩, ⟨(some 40), none, (.ext 1 (.t 35))⟩, ⟨(some 11), none, (.mv (.t 39))⟩, ⟨(some 12), none, (.mv (.t 40))⟩]) (.seq 
  (.reg [⟨(some 42), none, (.mv (.t 7))⟩, ⟨(some 43), none, (.mv (.t 9))⟩, ⟨(some 44), none, (.call f_span_Less [(.t 42), (.t 43)])⟩, ⟨(some 41), none, (.mv (.t 44))⟩, 
  ⟨(some 45), none, (.ext 0 (.t 41))⟩, ⟨(some 46), none, (.ext 1 (.t 41))⟩, ⟨(some 13), none, (.mv (.t 45))⟩, ⟨(some 14), none, (.mv (.t 46))⟩]) (.seq (.seq 
  (.reg [⟨(some 47), none, (.mv (.t 10))⟩, ⟨(some 48), none, (.eq true .i (.t 47) (.k (.int .i64 0)))⟩, ⟨(some 49), none, (.mv (.t 48))⟩, 
  ⟨(some 50), (some (49, false)), (.mv (.t 12))⟩, ⟨(some 51), (some (49, false)), (.eq true .i (.t 50) (.k (.int .i64 0)))⟩, 
  ⟨(some 52), none, (.pick (.t 49) (.k (.bool true)) (.t 51))⟩, ⟨(some 53), none, (.mv (.t 52))⟩, ⟨(some 54), (some (53, false)), (.mv (.t 14))⟩, 
  ⟨(some 55), (some (53, false)), (.eq true .i (.t 54) (.k (.int .i64 0)))⟩, ⟨(some 56), none, (.pick (.t 53) (.k (.bool true)) (.t 55))⟩, ⟨(some 57), none, (.mv (.t 56))⟩, 
  ⟨(some 58), (some (57, false)), (.mv (.t 11))⟩, ⟨(some 59), (some (57, false)), (.lenl (.t 58))⟩, ⟨(some 60), (some (57, false)), (.eq true .i (.t 59) (.k (.int .i64 0)))⟩, 
  ⟨(some 61), none, (.pick (.t 57) (.k (.bool true)) (.t 60))⟩, ⟨(some 62), none, (.mv (.t 61))⟩, ⟨(some 63), (some (62, false)), (.mv (.t 9))⟩, 
  ⟨(some 64), (some (62, false)), (.call f_span_Sound [(.t 63)])⟩, ⟨(some 65), (some (62, false)), (.un .not (.t 64))⟩, ⟨(some 66), none, (.pick (.t 62) (.k (.bool true)) (.t 65))⟩, 
  ⟨(some 67), none, (.mv (.t 66))⟩, ⟨(some 68), (some (67, false)), (.mv (.t 13))⟩, ⟨(some 69), (some (67, false)), (.call f_span_Sound [(.t 68)])⟩, 
  ⟨(some 70), (some (67, false)), (.un .not (.t 69))⟩, ⟨(some 71), none, (.pick (.t 67) (.k (.bool true)) (.t 70))⟩]) (.cond (.t 71) (.seq 
  (.reg [⟨(some 6), none, (.mv (.k (.bool false)))⟩]) .ret) .skip)) (.seq (.reg [⟨(some 73), none, (.mv (.t 7))⟩, ⟨(some 74), none, (.call f_span_Count [(.t 73)])⟩, 
  ⟨(some 72), none, (.mv (.t 74))⟩, ⟨(some 75), none, (.ext 0 (.t 72))⟩, ⟨(some 76), none, (.ext 1 (.t 72))⟩, ⟨(some 15), none, (.new [(.int .u64 0), (.int .u64 0)])⟩, 
  ⟨none, none, (.st (some 2) (.t 15) (.t 75))⟩, ⟨(some 16), none, (.mv (.t 76))⟩]) (.seq (.reg [⟨(some 78), none, (.mv (.t 9))⟩, ⟨(some 79), none, (.call f_span_Count [(.t 78)])⟩, 
  ⟨(some 77), none, (.mv (.t 79))⟩, ⟨(some 80), none, (.ext 0 (.t 77))⟩, ⟨(some 81), none, (.ext 1 (.t 77))⟩, ⟨(some 17), none, (.new [(.int .u64 0), (.int .u64 0)])⟩, 
  ⟨none, none, (.st (some 2) (.t 17) (.t 80))⟩, ⟨(some 18), none, (.mv (.t 81))⟩]) (.seq (.reg [⟨(some 83), none, (.mv (.t 13))⟩, ⟨(some 84), none, (.call f_span_Count [(.t 83)])⟩, 
  ⟨(some 82), none, (.mv (.t 84))⟩, ⟨(some 85), none, (.ext 0 (.t 82))⟩, ⟨(some 86), none, (.ext 1 (.t 82))⟩, ⟨(some 19), none, (.new [(.int .u64 0), (.int .u64 0)])⟩, 
  ⟨none, none, (.st (some 2) (.t 19) (.t 85))⟩, ⟨(some 20), none, (.mv (.t 86))⟩]) (.seq (.reg [⟨(some 88), none, (.ld (some 2) (.t 17))⟩, ⟨(some 89), none, (.ld (some 2) (.t 19))⟩, 
  ⟨(some 90), none, (.call f_addr_Add [(.t 88), (.t 89)])⟩, ⟨(some 87), none, (.mv (.t 90))⟩, ⟨(some 91), none, (.ext 0 (.t 87))⟩, ⟨(some 92), none, (.ext 1 (.t 87))⟩, 
  ⟨(some 21), none, (.new [(.int .u64 0), (.int .u64 0)])⟩, ⟨none, none, (.st (some 2) (.t 21) (.t 91))⟩, ⟨(some 22), none, (.mv (.t 92))⟩]) (.seq 
  (.drw 0 [⟨⟨(some 93), none, (.ld (some 2) (.t 21))⟩, .ld, [], []⟩, ⟨⟨(some 94), none, (.ld (some 2) (.t 15))⟩, .ld, [], []⟩, 
  ⟨⟨(some 95), none, (.eq false (.st (.one 0 .i (.one 1 .i .nil))) (.t 93) (.t 94))⟩, .pure, [], []⟩, ⟨⟨(some 96), none, (.mv (.t 95))⟩, .pure, [], []⟩, 
  ⟨⟨(some 97), (some (96, true)), (.mv (.t 9))⟩, .pure, [], []⟩, ⟨⟨(some 98), (some (96, true)), (.ld (some 2) (.t 5))⟩, .ld, [], []⟩, 
  ⟨⟨(some 99), (some (96, true)), (.call f_span_Has [(.t 97), (.t 98)])⟩, .eff, [], []⟩, ⟨⟨(some 100), (some (96, true)), (.mv (.t 7))⟩, .pure, [5], []⟩, 
  ⟨⟨(some 101), (some (96, true)), (.ld (some 2) (.t 5))⟩, .ld, [6], []⟩, ⟨⟨(some 102), (some (96, true)), (.call f_span_Has [(.t 100), (.t 101)])⟩, .eff, [], []⟩, 
  ⟨⟨(some 103), (some (96, true)), (.mv (.t 102))⟩, .pure, [], []⟩, ⟨⟨(some 104), (some (103, true)), (.mv (.t 8))⟩, .pure, [], []⟩, 
  ⟨⟨(some 105), (some (103, true)), (.ld (some 2) (.t 5))⟩, .ld, [], []⟩, ⟨⟨(some 106), (some (103, true)), (.call f_span_Has [(.t 104), (.t 105)])⟩, .eff, [], []⟩, 
  ⟨⟨(some 107), (some (103, true)), (.un .not (.t 106))⟩, .pure, [], []⟩, ⟨⟨(some 108), (some (96, true)), (.pick (.t 103) (.t 107) (.k (.bool false)))⟩, .pure, [], []⟩, 
  ⟨⟨(some 109), (some (96, true)), (.eq false .b (.t 99) (.t 108))⟩, .pure, [], []⟩, ⟨⟨(some 110), none, (.pick (.t 96) (.t 109) (.k (.bool false)))⟩, .pure, [], []⟩, 
  ⟨⟨(some 111), none, (.mv (.t 110))⟩, .pure, [], []⟩, ⟨⟨(some 112), (some (111, true)), (.mv (.t 13))⟩, .pure, [], []⟩, 
  ⟨⟨(some 113), (some (111, true)), (.ld (some 2) (.t 5))⟩, .ld, [], []⟩, ⟨⟨(some 114), (some (111, true)), (.call f_span_Has [(.t 112), (.t 113)])⟩, .eff, [], []⟩, 
  ⟨⟨(some 115), (some (111, true)), (.mv (.t 7))⟩, .pure, [20], []⟩, ⟨⟨(some 116), (some (111, true)), (.ld (some 2) (.t 5))⟩, .ld, [21], []⟩, 
  ⟨⟨(some 117), (some (111, true)), (.call f_span_Has [(.t 115), (.t 116)])⟩, .eff, [], []⟩, ⟨⟨(some 118), (some (111, true)), (.mv (.t 117))⟩, .pure, [], []⟩, 
  ⟨⟨(some 119), (some (118, true)), (.mv (.t 8))⟩, .pure, [], []⟩, ⟨⟨(some 120), (some (118, true)), (.ld (some 2) (.t 5))⟩, .ld, [], []⟩, 
  ⟨⟨(some 121), (some (118, true)), (.call f_span_Has [(.t 119), (.t 120)])⟩, .eff, [], []⟩, 
  ⟨⟨(some 122), (some (111, true)), (.pick (.t 118) (.t 121) (.k (.bool false)))⟩, .pure, [], []⟩, 
  ⟨⟨(some 123), (some (111, true)), (.eq false .b (.t 114) (.t 122))⟩, .pure, [], []⟩, ⟨⟨(some 124), none, (.pick (.t 111) (.t 123) (.k (.bool false)))⟩, .pure, [], []⟩, 
  ⟨⟨(some 6), none, (.mv (.t 124))⟩, .pure, [], []⟩]) .ret)))))))))))))⟩
theorem c_w03_SpanLess : compF Try.prog ⟨some 52, some 53⟩ Try.f8 = some r_w03_SpanLess := by kernel_rfl
/-- tenancy/tenancylaw03.SpanMemory -/
def r_w03_SpanMemory : RF :=
  ⟨173, [(.tmp 4)], (.seq (.reg [⟨(some 3), none, (.box (some 4) (.t 1))⟩, ⟨(some 4), none, (.mv (.k (.bool false)))⟩]) (.seq (.seq (.reg [⟨(some 20), none, (.call f_w03_awake [])⟩, 
  ⟨(some 21), none, (.un .not (.t 20))⟩]) (.cond (.t 21) (.seq (.reg [⟨(some 4), none, (.mv (.k (.bool false)))⟩]) .ret) .skip)) (.seq (.reg [⟨(some 22), none, (.mv (.t 0))⟩, 
  ⟨(some 23), none, (.call f_w03_built [(.t 22)])⟩, ⟨(some 5), none, (.mv (.t 23))⟩]) (.seq (.reg [⟨(some 24), none, (.mv (.t 5))⟩, ⟨(some 25), none, (.lenl (.t 24))⟩, 
  ⟨(some 6), none, (.mv (.t 25))⟩]) (.seq (.reg [⟨(some 26), none, (.mv (.t 6))⟩, ⟨(some 27), none, (.bin .add (.t 26) (.k (.int .i64 2)))⟩, 
  ⟨(some 28), none, (.mks 4 32 [(.int .u64 0), (.int .u64 0), (.int .u64 0), (.int .u64 0)] (.k (.int .i64 0)) (.t 27))⟩, ⟨(some 7), none, (.mv (.t 28))⟩]) (.seq 
  (.reg [⟨(some 29), none, (.mv (.t 7))⟩, ⟨(some 30), none, (.mv (.t 5))⟩, ⟨(some 31), none, (.app 4 32 (.t 29) (.t 30))⟩, ⟨(some 7), none, (.mv (.t 31))⟩]) (.seq 
  (.reg [⟨(some 32), none, (.mv (.t 7))⟩, ⟨(some 33), none, (.call f_w03_small [(.k (.int .u64 71)), (.k (.int .u64 71))])⟩, 
  ⟨(some 34), none, (.call f_w03_small [(.k (.int .u64 73)), (.k (.int .u64 73))])⟩, 
  ⟨(some 35), none, (.bsl 4 2 [(.int .u64 0), (.int .u64 0), (.int .u64 0), (.int .u64 0)] [(0, (4, (.t 33))), (4, (4, (.t 34)))])⟩, ⟨(some 36), none, (.app 4 32 (.t 32) (.t 35))⟩, 
  ⟨(some 7), none, (.mv (.t 36))⟩]) (.seq (.drw 0 [⟨⟨(some 38), none, (.mv (.t 7))⟩, .pure, [], []⟩, ⟨⟨(some 39), none, (.mv (.t 6))⟩, .pure, [], []⟩, 
  ⟨⟨(some 40), none, (.slc 4 (.t 38) none (some (.t 39)) none)⟩, .pure, [], []⟩, ⟨⟨(some 41), none, (.ld (some 4) (.t 3))⟩, .ld, [], []⟩, 
  ⟨⟨(some 42), none, (.call f_span_Put [(.t 40), (.t 41)])⟩, .eff, [], []⟩, ⟨⟨(some 37), none, (.mv (.t 42))⟩, .pure, [], []⟩, ⟨⟨(some 43), none, (.ext 0 (.t 37))⟩, .pure, [], []⟩, 
  ⟨⟨(some 44), none, (.ext 1 (.t 37))⟩, .pure, [], []⟩, ⟨⟨(some 8), none, (.mv (.t 43))⟩, .pure, [], []⟩, ⟨⟨(some 9), none, (.mv (.t 44))⟩, .pure, [], []⟩]) (.seq 
  (.drw 0 [⟨⟨(some 46), none, (.mv (.t 7))⟩, .pure, [], []⟩, ⟨⟨(some 47), none, (.mv (.t 6))⟩, .pure, [], []⟩, 
  ⟨⟨(some 48), none, (.slc 4 (.t 46) none (some (.t 47)) none)⟩, .pure, [], []⟩, ⟨⟨(some 49), none, (.ld (some 4) (.t 3))⟩, .ld, [], []⟩, 
  ⟨⟨(some 50), none, (.call f_span_Put [(.t 48), (.t 49)])⟩, .eff, [], []⟩, ⟨⟨(some 45), none, (.mv (.t 50))⟩, .pure, [], []⟩, ⟨⟨(some 51), none, (.ext 0 (.t 45))⟩, .pure, [], []⟩, 
  ⟨⟨(some 52), none, (.ext 1 (.t 45))⟩, .pure, [], []⟩, ⟨⟨(some 10), none, (.mv (.t 51))⟩, .pure, [], []⟩, ⟨⟨(some 11), none, (.mv (.t 52))⟩, .pure, [], []⟩]) (.seq 
  (.reg [⟨(some 54), none, (.mv (.t 7))⟩, ⟨(some 55), none, (.mv (.t 6))⟩, ⟨(some 56), none, (.slc 4 (.t 54) none (some (.t 55)) none)⟩, 
  ⟨(some 57), none, (.call f_span_Less [(.t 56), (.k .nils)])⟩, ⟨(some 53), none, (.mv (.t 57))⟩, ⟨(some 58), none, (.ext 0 (.t 53))⟩, ⟨(some 59), none, (.ext 1 (.t 53))⟩, 
  ⟨(some 12), none, (.mv (.t 58))⟩, ⟨(some 13), none, (.mv (.t 59))⟩]) (.seq (.drw 0 [⟨⟨(some 61), none, (.mv (.t 7))⟩, .pure, [], []⟩, 
  ⟨⟨(some 62), none, (.mv (.t 6))⟩, .pure, [], []⟩, ⟨⟨(some 63), none, (.slc 4 (.t 61) none (some (.t 62)) none)⟩, .pure, [], []⟩, 
  ⟨⟨(some 64), none, (.ld (some 4) (.t 3))⟩, .ld, [], []⟩, ⟨⟨(some 65), none, (.call f_span_Drop [(.t 63), (.t 64)])⟩, .eff, [], []⟩, 
  ⟨⟨(some 60), none, (.mv (.t 65))⟩, .pure, [], []⟩, ⟨⟨(some 66), none, (.ext 0 (.t 60))⟩, .pure, [], []⟩, ⟨⟨(some 67), none, (.ext 1 (.t 60))⟩, .pure, [], []⟩, 
  ⟨⟨(some 14), none, (.mv (.t 66))⟩, .pure, [], []⟩, ⟨⟨(some 15), none, (.mv (.t 67))⟩, .pure, [], []⟩]) (.seq (.seq (.drw 0 [⟨⟨(some 68), none, (.mv (.t 9))⟩, .pure, [], []⟩, 
  ⟨⟨(some 69), none, (.mv (.t 11))⟩, .pure, [], []⟩, ⟨⟨(some 70), none, (.eq true .i (.t 68) (.t 69))⟩, .pure, [], []⟩, ⟨⟨(some 71), none, (.mv (.t 70))⟩, .pure, [], []⟩, 
  ⟨⟨(some 72), (some (71, false)), (.mv (.t 13))⟩, .pure, [], []⟩, ⟨⟨(some 73), (some (71, false)), (.eq true .i (.t 72) (.k (.int .i64 0)))⟩, .pure, [], []⟩, 
  ⟨⟨(some 74), none, (.pick (.t 71) (.k (.bool true)) (.t 73))⟩, .pure, [], []⟩, ⟨⟨(some 75), none, (.mv (.t 74))⟩, .pure, [], []⟩, 
  ⟨⟨(some 76), (some (75, false)), (.mv (.t 15))⟩, .pure, [], []⟩, ⟨⟨(some 77), (some (75, false)), (.mv (.t 9))⟩, .pure, [], []⟩, 
  ⟨⟨(some 78), (some (75, false)), (.eq true .i (.t 76) (.t 77))⟩, .pure, [], []⟩, ⟨⟨(some 79), none, (.pick (.t 75) (.k (.bool true)) (.t 78))⟩, .pure, [], []⟩, 
  ⟨⟨(some 80), none, (.mv (.t 79))⟩, .pure, [], []⟩, ⟨⟨(some 81), (some (80, false)), (.mv (.t 8))⟩, .pure, [], []⟩, ⟨⟨(some 82), (some (80, false)), (.mv (.t 10))⟩, .pure, [], []⟩, 
  ⟨⟨(some 83), (some (80, false)), (.call f_w03_same [(.t 81), (.t 82)])⟩, .eff, [], []⟩, ⟨⟨(some 84), (some (80, false)), (.un .not (.t 83))⟩, .pure, [], []⟩, 
  ⟨⟨(some 85), none, (.pick (.t 80) (.k (.bool true)) (.t 84))⟩, .pure, [], []⟩, ⟨⟨(some 86), none, (.mv (.t 85))⟩, .pure, [], []⟩, 
  ⟨⟨(some 87), (some (86, false)), (.mv (.t 12))⟩, .pure, [], []⟩, ⟨⟨(some 88), (some (86, false)), (.mv (.t 5))⟩, .pure, [], []⟩, 
  ⟨⟨(some 89), (some (86, false)), (.call f_w03_same [(.t 87), (.t 88)])⟩, .eff, [], []⟩, ⟨⟨(some 90), (some (86, false)), (.un .not (.t 89))⟩, .pure, [], []⟩, 
  ⟨⟨(some 91), none, (.pick (.t 86) (.k (.bool true)) (.t 90))⟩, .pure, [], []⟩, ⟨⟨(some 92), none, (.mv (.t 91))⟩, .pure, [], []⟩, 
  ⟨⟨(some 93), (some (92, false)), (.mv (.t 7))⟩, .pure, [], []⟩, ⟨⟨(some 94), (some (92, false)), (.mv (.t 6))⟩, .pure, [], []⟩, 
  ⟨⟨(some 95), (some (92, false)), (.slc 4 (.t 93) none (some (.t 94)) none)⟩, .pure, [], []⟩, ⟨⟨(some 96), (some (92, false)), (.mv (.t 5))⟩, .pure, [], []⟩, 
  ⟨⟨(some 97), (some (92, false)), (.call f_w03_same [(.t 95), (.t 96)])⟩, .eff, [], []⟩, ⟨⟨(some 98), (some (92, false)), (.un .not (.t 97))⟩, .pure, [], []⟩, 
  ⟨⟨(some 99), none, (.pick (.t 92) (.k (.bool true)) (.t 98))⟩, .pure, [], []⟩, ⟨⟨(some 100), none, (.mv (.t 99))⟩, .pure, [], []⟩, 
  ⟨⟨(some 101), (some (100, false)), (.mv (.t 7))⟩, .pure, [], []⟩, ⟨⟨(some 102), (some (100, false)), (.mv (.t 6))⟩, .pure, [], []⟩, 
  ⟨⟨(some 103), (some (100, false)), (.ixa 4 (.t 101) (.t 102))⟩, .pure, [], []⟩, ⟨⟨(some 104), (some (100, false)), (.ld (some 4) (.t 103))⟩, .ld, [], []⟩, 
  ⟨⟨(some 105), (some (100, false)), (.call f_w03_small [(.k (.int .u64 71)), (.k (.int .u64 71))])⟩, .eff, [36], []⟩, 
  ⟨⟨(some 106), (some (100, false)), (.eq true (.st (.sub 0 2 (.st (.one 0 .i (.one 1 .i .nil))) (.sub 2 2 (.st (.one 0 .i (.one 1 .i .nil))) .nil))) (.t 104) (.t 105))⟩, .pure, [], []⟩, 
  ⟨⟨(some 107), none, (.pick (.t 100) (.k (.bool true)) (.t 106))⟩, .pure, [], []⟩, ⟨⟨(some 108), none, (.mv (.t 107))⟩, .pure, [], []⟩, 
  ⟨⟨(some 109), (some (108, false)), (.mv (.t 7))⟩, .pure, [], []⟩, ⟨⟨(some 110), (some (108, false)), (.mv (.t 6))⟩, .pure, [], []⟩, 
  ⟨⟨(some 111), (some (108, false)), (.bin .add (.t 110) (.k (.int .i64 1)))⟩, .pure, [], []⟩, ⟨⟨(some 112), (some (108, false)), (.ixa 4 (.t 109) (.t 111))⟩, .pure, [], []⟩, 
  ⟨⟨(some 113), (some (108, false)), (.ld (some 4) (.t 112))⟩, .ld, [], []⟩, 
  ⟨⟨(some 114), (some (108, false)), (.call f_w03_small [(.k (.int .u64 73)), (.k (.int .u64 73))])⟩, .eff, [45], []⟩, 
  ⟨⟨(some 115), (some (108, false)), (.eq true (.st (.sub 0 2 (.st (.one 0 .i (.one 1 .i .nil))) (.sub 2 2 (.st (.one 0 .i (.one 1 .i .nil))) .nil))) (.t 113) (.t 114))⟩, .pure, [], []⟩, 
  ⟨⟨(some 116), none, (.pick (.t 108) (.k (.bool true)) (.t 115))⟩, .pure, [], []⟩]) (.cond (.t 116) (.seq (.reg [⟨(some 4), none, (.mv (.k (.bool false)))⟩]) .ret) .skip)) (.seq 
  (.reg [⟨(some 117), none, (.bsl 4 0 [(.int .u64 0), (.int .u64 0), (.int .u64 0), (.int .u64 0)] [])⟩, ⟨(some 118), none, (.mv (.t 10))⟩, 
  ⟨(some 119), none, (.app 4 32 (.t 117) (.t 118))⟩, ⟨(some 16), none, (.mv (.t 119))⟩]) (.seq (.seq (.reg [⟨(some 17), none, (.mv (.k (.int .i64 0)))⟩]) (.block 0 (.loop (.seq 
  (.seq (.reg [⟨(some 120), none, (.mv (.t 17))⟩, ⟨(some 121), none, (.mv (.t 8))⟩, ⟨(some 122), none, (.lenl (.t 121))⟩, ⟨(some 123), none, (.bin .lss (.t 120) (.t 122))⟩]) 
  (.cond (.t 123) .skip (.exit 0))) (.seq (.block 1 (.reg [⟨(some 126), none, (.mv (.t 8))⟩, ⟨(some 127), none, (.mv (.t 17))⟩, 
  ⟨(some 128), none, (.call f_w03_small [(.k (.int .u64 9)), (.k (.int .u64 9))])⟩, ⟨(some 129), none, (.ixa 4 (.t 126) (.t 127))⟩, ⟨none, none, (.st (some 4) (.t 129) (.t 128))⟩])) 
  (.reg [⟨(some 124), none, (.mv (.t 17))⟩, ⟨(some 125), none, (.bin .add (.t 124) (.k (.int .i64 1)))⟩, ⟨(some 17), none, (.mv (.t 125))⟩])))))) (.seq (.seq 
  (.reg [⟨(some 18), none, (.mv (.k (.int .i64 0)))⟩]) (.block 2 (.loop (.seq (.seq (.reg [⟨(some 130), none, (.mv (.t 18))⟩, ⟨(some 131), none, (.mv (.t 12))⟩, 
  ⟨(some 132), none, (.lenl (.t 131))⟩, ⟨(some 133), none, (.bin .lss (.t 130) (.t 132))⟩]) (.cond (.t 133) .skip (.exit 2))) (.seq (.block 3 
  (.reg [⟨(some 136), none, (.mv (.t 12))⟩, ⟨(some 137), none, (.mv (.t 18))⟩, ⟨(some 138), none, (.call f_w03_small [(.k (.int .u64 9)), (.k (.int .u64 9))])⟩, 
  ⟨(some 139), none, (.ixa 4 (.t 136) (.t 137))⟩, ⟨none, none, (.st (some 4) (.t 139) (.t 138))⟩])) (.reg [⟨(some 134), none, (.mv (.t 18))⟩, 
  ⟨(some 135), none, (.bin .add (.t 134) (.k (.int .i64 1)))⟩, ⟨(some 18), none, (.mv (.t 135))⟩])))))) (.seq (.seq (.reg [⟨(some 19), none, (.mv (.k (.int .i64 0)))⟩]) (.block 4 
  (.loop (.seq (.seq (.reg [⟨(some 140), none, (.mv (.t 19))⟩, ⟨(some 141), none, (.mv (.t 14))⟩, ⟨(some 142), none, (.lenl (.t 141))⟩, 
  ⟨(some 143), none, (.bin .lss (.t 140) (.t 142))⟩]) (.cond (.t 143) .skip (.exit 4))) (.seq (.block 5 (.reg [⟨(some 146), none, (.mv (.t 14))⟩, ⟨(some 147), none, (.mv (.t 19))⟩, 
  ⟨(some 148), none, (.call f_w03_small [(.k (.int .u64 9)), (.k (.int .u64 9))])⟩, ⟨(some 149), none, (.ixa 4 (.t 146) (.t 147))⟩, ⟨none, none, (.st (some 4) (.t 149) (.t 148))⟩])) 
  (.reg [⟨(some 144), none, (.mv (.t 19))⟩, ⟨(some 145), none, (.bin .add (.t 144) (.k (.int .i64 1)))⟩, ⟨(some 19), none, (.mv (.t 145))⟩])))))) (.seq 
  (.reg [⟨(some 150), none, (.mv (.t 8))⟩, ⟨(some 151), none, (.call f_w03_small [(.k (.int .u64 8)), (.k (.int .u64 8))])⟩, 
  ⟨(some 152), none, (.call f_w03_small [(.k (.int .u64 8)), (.k (.int .u64 8))])⟩, 
  ⟨(some 153), none, (.bsl 4 2 [(.int .u64 0), (.int .u64 0), (.int .u64 0), (.int .u64 0)] [(0, (4, (.t 151))), (4, (4, (.t 152)))])⟩, 
  ⟨(some 154), none, (.app 4 32 (.t 150) (.t 153))⟩, ⟨(some 8), none, (.mv (.t 154))⟩]) (.seq (.reg [⟨(some 155), none, (.mv (.t 10))⟩, ⟨(some 156), none, (.mv (.t 16))⟩, 
  ⟨(some 157), none, (.call f_w03_same [(.t 155), (.t 156)])⟩, ⟨(some 158), none, (.mv (.t 157))⟩, ⟨(some 159), (some (158, true)), (.mv (.t 7))⟩, 
  ⟨(some 160), (some (158, true)), (.mv (.t 6))⟩, ⟨(some 161), (some (158, true)), (.slc 4 (.t 159) none (some (.t 160)) none)⟩, ⟨(some 162), (some (158, true)), (.mv (.t 5))⟩, 
  ⟨(some 163), (some (158, true)), (.call f_w03_same [(.t 161), (.t 162)])⟩, ⟨(some 164), none, (.pick (.t 158) (.t 163) (.k (.bool false)))⟩, ⟨(some 165), none, (.mv (.t 164))⟩, 
  ⟨(some 166), (some (165, true)), (.mv (.t 8))⟩, ⟨(some 167), (some (165, true)), (.lenl (.t 166))⟩, ⟨(some 168), (some (165, true)), (.mv (.t 10))⟩, 
  ⟨(some 169), (some (165, true)), (.lenl (.t 168))⟩, ⟨(some 170), (some (165, true)), (.bin .add (.t 169) (.k (.int .i64 2)))⟩, 
  ⟨(some 171), (some (165, true)), (.eq false .i (.t 167) (.t 170))⟩, ⟨(some 172), none, (.pick (.t 165) (.t 171) (.k (.bool false)))⟩, 
  ⟨(some 4), none, (.mv (.t 172))⟩]) .ret))))))))))))))))))⟩
theorem c_w03_SpanMemory : compF Try.prog ⟨some 52, some 53⟩ Try.f9 = some r_w03_SpanMemory := by kernel_rfl
/-- tenancy/tenancylaw03.awake -/
def r_w03_awake : RF :=
  ⟨108, [(.tmp 0)], (.seq (.reg [⟨(some 0), none, (.mv (.k (.bool false)))⟩]) (.seq (.reg [⟨(some 12), none, (.call f_w03_small [(.k (.int .u64 1)), (.k (.int .u64 3))])⟩, 
  ⟨(some 13), none, (.call f_w03_small [(.k (.int .u64 7)), (.k (.int .u64 9))])⟩, 
  ⟨(some 14), none, (.bsl 4 2 [(.int .u64 0), (.int .u64 0), (.int .u64 0), (.int .u64 0)] [(0, (4, (.t 12))), (4, (4, (.t 13)))])⟩, ⟨(some 1), none, (.mv (.t 14))⟩]) (.seq 
  (.reg [⟨(some 16), none, (.mv (.t 1))⟩, ⟨(some 17), none, (.call f_w03_small [(.k (.int .u64 4)), (.k (.int .u64 5))])⟩, ⟨(some 18), none, (.call f_span_Put [(.t 16), (.t 17)])⟩, 
  ⟨(some 15), none, (.mv (.t 18))⟩, ⟨(some 19), none, (.ext 0 (.t 15))⟩, ⟨(some 20), none, (.ext 1 (.t 15))⟩, ⟨(some 2), none, (.mv (.t 19))⟩, ⟨(some 3), none, (.mv (.t 20))⟩]) 
  (.seq (.reg [⟨(some 22), none, (.mv (.t 2))⟩, ⟨(some 23), none, (.call f_w03_small [(.k (.int .u64 2)), (.k (.int .u64 8))])⟩, 
  ⟨(some 24), none, (.call f_span_Drop [(.t 22), (.t 23)])⟩, ⟨(some 21), none, (.mv (.t 24))⟩, ⟨(some 25), none, (.ext 0 (.t 21))⟩, ⟨(some 26), none, (.ext 1 (.t 21))⟩, 
  ⟨(some 4), none, (.mv (.t 25))⟩, ⟨(some 5), none, (.mv (.t 26))⟩]) (.seq (.reg [⟨(some 28), none, (.mv (.t 1))⟩, ⟨(some 29), none, (.mv (.t 4))⟩, 
  ⟨(some 30), none, (.call f_span_Less [(.t 28), (.t 29)])⟩, ⟨(some 27), none, (.mv (.t 30))⟩, ⟨(some 31), none, (.ext 0 (.t 27))⟩, ⟨(some 32), none, (.ext 1 (.t 27))⟩, 
  ⟨(some 6), none, (.mv (.t 31))⟩, ⟨(some 7), none, (.mv (.t 32))⟩]) (.seq (.reg [⟨(some 34), none, (.mv (.t 1))⟩, ⟨(some 35), none, (.call f_span_Count [(.t 34)])⟩, 
  ⟨(some 33), none, (.mv (.t 35))⟩, ⟨(some 36), none, (.ext 0 (.t 33))⟩, ⟨(some 37), none, (.ext 1 (.t 33))⟩, ⟨(some 8), none, (.new [(.int .u64 0), (.int .u64 0)])⟩, 
  ⟨none, none, (.st (some 2) (.t 8) (.t 36))⟩, ⟨(some 9), none, (.mv (.t 37))⟩]) (.seq (.reg [⟨(some 39), none, (.mv (.t 1))⟩, 
  ⟨(some 40), none, (.bld [(.int .u64 0), (.int .u64 0)] [(1, (1, (.k (.int .u64 3))))])⟩, ⟨(some 41), none, (.call f_span_Nth [(.t 39), (.t 40)])⟩, 
  ⟨(some 38), none, (.mv (.t 41))⟩, ⟨(some 42), none, (.ext 0 (.t 38))⟩, ⟨(some 43), none, (.ext 1 (.t 38))⟩, ⟨(some 10), none, (.new [(.int .u64 0), (.int .u64 0)])⟩, 
  ⟨none, none, (.st (some 2) (.t 10) (.t 42))⟩, ⟨(some 11), none, (.mv (.t 43))⟩]) (.seq (.reg [⟨(some 44), none, (.mv (.t 3))⟩, 
  ⟨(some 45), none, (.eq false .i (.t 44) (.k (.int .i64 0)))⟩, ⟨(some 46), none, (.mv (.t 45))⟩, ⟨(some 47), (some (46, true)), (.mv (.t 5))⟩, 
  ⟨(some 48), (some (46, true)), (.eq false .i (.t 47) (.k (.int .i64 0)))⟩, ⟨(some 49), none, (.pick (.t 46) (.t 48) (.k (.bool false)))⟩, ⟨(some 50), none, (.mv (.t 49))⟩, 
  ⟨(some 51), (some (50, true)), (.mv (.t 7))⟩, ⟨(some 52), (some (50, true)), (.eq false .i (.t 51) (.k (.int .i64 0)))⟩, 
  ⟨(some 53), none, (.pick (.t 50) (.t 52) (.k (.bool false)))⟩, ⟨(some 54), none, (.mv (.t 53))⟩, ⟨(some 55), (some (54, true)), (.mv (.t 2))⟩, 
  ⟨(some 56), (some (54, true)), (.call f_w03_small [(.k (.int .u64 1)), (.k (.int .u64 5))])⟩, 
  ⟨(some 57), (some (54, true)), (.call f_w03_small [(.k (.int .u64 7)), (.k (.int .u64 9))])⟩, 
  ⟨(some 58), (some (54, true)), (.bsl 4 2 [(.int .u64 0), (.int .u64 0), (.int .u64 0), (.int .u64 0)] [(0, (4, (.t 56))), (4, (4, (.t 57)))])⟩, 
  ⟨(some 59), (some (54, true)), (.call f_w03_same [(.t 55), (.t 58)])⟩, ⟨(some 60), none, (.pick (.t 54) (.t 59) (.k (.bool false)))⟩, ⟨(some 61), none, (.mv (.t 60))⟩, 
  ⟨(some 62), (some (61, true)), (.mv (.t 4))⟩, ⟨(some 63), (some (61, true)), (.call f_w03_small [(.k (.int .u64 1)), (.k (.int .u64 1))])⟩, 
  ⟨(some 64), (some (61, true)), (.call f_w03_small [(.k (.int .u64 9)), (.k (.int .u64 9))])⟩, 
  ⟨(some 65), (some (61, true)), (.bsl 4 2 [(.int .u64 0), (.int .u64 0), (.int .u64 0), (.int .u64 0)] [(0, (4, (.t 63))), (4, (4, (.t 64)))])⟩, 
  ⟨(some 66), (some (61, true)), (.call f_w03_same [(.t 62), (.t 65)])⟩, ⟨(some 67), none, (.pick (.t 61) (.t 66) (.k (.bool false)))⟩, ⟨(some 68), none, (.mv (.t 67))⟩, 
  ⟨(some 69), (some (68, true)), (.mv (.t 6))⟩, ⟨(some 70), (some (68, true)), (.call f_w03_small [(.k (.int .u64 2)), (.k (.int .u64 3))])⟩, 
  ⟨(some 71), (some (68, true)), (.call f_w03_small [(.k (.int .u64 7)), (.k (.int .u64 8))])⟩, 
  ⟨(some 72), (some (68, true)), (.bsl 4 2 [(.int .u64 0), (.int .u64 0), (.int .u64 0), (.int .u64 0)] [(0, (4, (.t 70))), (4, (4, (.t 71)))])⟩, 
  ⟨(some 73), (some (68, true)), (.call f_w03_same [(.t 69), (.t 72)])⟩, ⟨(some 74), none, (.pick (.t 68) (.t 73) (.k (.bool false)))⟩, ⟨(some 75), none, (.mv (.t 74))⟩, 
  ⟨(some 76), (some (75, true)), (.ld (some 2) (.t 8))⟩, ⟨(some 77), (some (75, true)), (.bld [(.int .u64 0), (.int .u64 0)] [(1, (1, (.k (.int .u64 6))))])⟩, 
  ⟨(some 78), (some (75, true)), (.eq false (.st (.one 0 .i (.one 1 .i .nil))) (.t 76) (.t 77))⟩, ⟨(some 79), none, (.pick (.t 75) (.t 78) (.k (.bool false)))⟩, 
  ⟨(some 80), none, (.mv (.t 79))⟩, ⟨(some 81), (some (80, true)), (.mv (.t 9))⟩, ⟨(some 82), (some (80, true)), (.un .not (.t 81))⟩, 
  ⟨(some 83), none, (.pick (.t 80) (.t 82) (.k (.bool false)))⟩, ⟨(some 84), none, (.mv (.t 83))⟩, ⟨(some 85), (some (84, true)), (.mv (.t 11))⟩, 
  ⟨(some 86), none, (.pick (.t 84) (.t 85) (.k (.bool false)))⟩, ⟨(some 87), none, (.mv (.t 86))⟩, ⟨(some 88), (some (87, true)), (.ld (some 2) (.t 10))⟩, 
  ⟨(some 89), (some (87, true)), (.bld [(.int .u64 0), (.int .u64 0)] [(1, (1, (.k (.int .u64 7))))])⟩, 
  ⟨(some 90), (some (87, true)), (.eq false (.st (.one 0 .i (.one 1 .i .nil))) (.t 88) (.t 89))⟩, ⟨(some 91), none, (.pick (.t 87) (.t 90) (.k (.bool false)))⟩, 
  ⟨(some 92), none, (.mv (.t 91))⟩, ⟨(some 93), (some (92, true)), (.mv (.t 1))⟩, 
  ⟨(some 94), (some (92, true)), (.bld [(.int .u64 0), (.int .u64 0)] [(1, (1, (.k (.int .u64 8))))])⟩, ⟨(some 95), (some (92, true)), (.call f_span_Rank [(.t 93), (.t 94)])⟩, 
  ⟨(some 96), (some (92, true)), (.bld [(.int .u64 0), (.int .u64 0)] [(1, (1, (.k (.int .u64 4))))])⟩, 
  ⟨(some 97), (some (92, true)), (.eq false (.st (.one 0 .i (.one 1 .i .nil))) (.t 95) (.t 96))⟩, ⟨(some 98), none, (.pick (.t 92) (.t 97) (.k (.bool false)))⟩, 
  ⟨(some 99), none, (.mv (.t 98))⟩, ⟨(some 100), (some (99, true)), (.mv (.t 1))⟩, 
  ⟨(some 101), (some (99, true)), (.bld [(.int .u64 0), (.int .u64 0)] [(1, (1, (.k (.int .u64 9))))])⟩, ⟨(some 102), (some (99, true)), (.call f_span_Has [(.t 100), (.t 101)])⟩, 
  ⟨(some 103), none, (.pick (.t 99) (.t 102) (.k (.bool false)))⟩, ⟨(some 104), none, (.mv (.t 103))⟩, ⟨(some 105), (some (104, true)), (.mv (.t 1))⟩, 
  ⟨(some 106), (some (104, true)), (.call f_span_Sound [(.t 105)])⟩, ⟨(some 107), none, (.pick (.t 104) (.t 106) (.k (.bool false)))⟩, 
  ⟨(some 0), none, (.mv (.t 107))⟩]) .ret))))))))⟩
theorem c_w03_awake : compF Try.prog ⟨some 52, some 53⟩ Try.f10 = some r_w03_awake := by kernel_rfl
/-- tenancy/span.Put -/
def r_span_Put : RF :=
  ⟨63, [(.tmp 4), (.tmp 5)], (.seq (.reg [⟨(some 3), none, (.box (some 4) (.t 1))⟩, ⟨(some 4), none, (.mv (.k .nils))⟩, ⟨(some 5), none, (.mv (.k (.int .i64 0)))⟩]) (.seq (.seq 
  (.reg [⟨(some 10), none, (.mv (.t 0))⟩, ⟨(some 11), none, (.call f_span_Sound [(.t 10)])⟩, ⟨(some 12), none, (.un .not (.t 11))⟩, ⟨(some 13), none, (.mv (.t 12))⟩, 
  ⟨(some 14), (some (13, false)), (.ld (some 4) (.t 3))⟩, ⟨(some 15), (some (13, false)), (.call f_span_isRange [(.t 14)])⟩, ⟨(some 16), (some (13, false)), (.un .not (.t 15))⟩, 
  ⟨(some 17), none, (.pick (.t 13) (.k (.bool true)) (.t 16))⟩]) (.cond (.t 17) (.seq (.reg [⟨(some 4), none, (.mv (.k .nils))⟩, 
  ⟨(some 5), none, (.mv (.k (.int .i64 1)))⟩]) .ret) .skip)) (.seq (.reg [⟨(some 6), none, (.mv (.k .nils))⟩, ⟨(some 7), none, (.mv (.k .nils))⟩]) (.seq (.seq 
  (.reg [⟨(some 18), none, (.mv (.t 0))⟩, ⟨(some 19), none, (.lenl (.t 18))⟩, ⟨(some 20), none, (.mv (.k (.int .i64 0)))⟩]) (.block 0 (.loop (.seq 
  (.reg [⟨(some 21), none, (.bin .lss (.t 20) (.t 19))⟩]) (.seq (.cond (.t 21) .skip (.exit 0)) (.seq (.block 1 (.seq (.reg [⟨(some 22), none, (.ixa 4 (.t 18) (.t 20))⟩, 
  ⟨(some 23), none, (.ld (some 4) (.t 22))⟩, ⟨(some 9), none, (.new [(.int .u64 0), (.int .u64 0), (.int .u64 0), (.int .u64 0)])⟩, ⟨none, none, (.st (some 4) (.t 9) (.t 23))⟩]) 
  (.block 2 (.seq (.reg [⟨(some 41), none, (.ld (some 4) (.t 9))⟩, ⟨(some 42), none, (.ld (some 4) (.t 3))⟩, ⟨(some 43), none, (.call f_span_apart [(.t 41), (.t 42)])⟩, 
  ⟨(some 40), none, (.mv (.t 43))⟩]) (.cond (.t 40) (.reg [⟨(some 44), none, (.mv (.t 6))⟩, ⟨(some 45), none, (.ld (some 4) (.t 9))⟩, 
  ⟨(some 46), none, (.bsl 4 1 [(.int .u64 0), (.int .u64 0), (.int .u64 0), (.int .u64 0)] [(0, (4, (.t 45)))])⟩, ⟨(some 47), none, (.app 4 32 (.t 44) (.t 46))⟩, 
  ⟨(some 6), none, (.mv (.t 47))⟩]) (.seq (.reg [⟨(some 49), none, (.ld (some 4) (.t 3))⟩, ⟨(some 50), none, (.ld (some 4) (.t 9))⟩, 
  ⟨(some 51), none, (.call f_span_apart [(.t 49), (.t 50)])⟩, ⟨(some 48), none, (.mv (.t 51))⟩]) (.cond (.t 48) (.reg [⟨(some 52), none, (.mv (.t 7))⟩, 
  ⟨(some 53), none, (.ld (some 4) (.t 9))⟩, ⟨(some 54), none, (.bsl 4 1 [(.int .u64 0), (.int .u64 0), (.int .u64 0), (.int .u64 0)] [(0, (4, (.t 53)))])⟩, 
  ⟨(some 55), none, (.app 4 32 (.t 52) (.t 54))⟩, ⟨(some 7), none, (.mv (.t 55))⟩]) (.seq (.seq (.reg [⟨(some 24), none, (.off 0 (.t 9))⟩, ⟨(some 25), none, (.ld (some 2) (.t 24))⟩, 
  ⟨(some 26), none, (.off 0 (.t 3))⟩, ⟨(some 27), none, (.ld (some 2) (.t 26))⟩, ⟨(some 28), none, (.call f_span_below [(.t 25), (.t 27)])⟩]) (.cond (.t 28) 
  (.reg [⟨(some 29), none, (.off 0 (.t 9))⟩, ⟨(some 30), none, (.ld (some 2) (.t 29))⟩, ⟨(some 31), none, (.off 0 (.t 3))⟩, ⟨none, none, (.st (some 2) (.t 31) (.t 30))⟩]) .skip)) 
  (.seq (.reg [⟨(some 32), none, (.off 2 (.t 3))⟩, ⟨(some 33), none, (.ld (some 2) (.t 32))⟩, ⟨(some 34), none, (.off 2 (.t 9))⟩, ⟨(some 35), none, (.ld (some 2) (.t 34))⟩, 
  ⟨(some 36), none, (.call f_span_below [(.t 33), (.t 35)])⟩]) (.cond (.t 36) (.reg [⟨(some 37), none, (.off 2 (.t 9))⟩, ⟨(some 38), none, (.ld (some 2) (.t 37))⟩, 
  ⟨(some 39), none, (.off 2 (.t 3))⟩, ⟨none, none, (.st (some 2) (.t 39) (.t 38))⟩]) .skip)))))))))) (.reg [⟨(some 56), none, (.bin .add (.t 20) (.k (.int .i64 1)))⟩, 
  ⟨(some 20), none, (.mv (.t 56))⟩]))))))) (.seq (.reg [⟨(some 57), none, (.mv (.t 6))⟩, ⟨(some 58), none, (.ld (some 4) (.t 3))⟩, 
  ⟨(some 59), none, (.bsl 4 1 [(.int .u64 0), (.int .u64 0), (.int .u64 0), (.int .u64 0)] [(0, (4, (.t 58)))])⟩, ⟨(some 60), none, (.mv (.t 7))⟩, 
  ⟨(some 61), none, (.bsl 1 3 [.nils] [(0, (1, (.t 57))), (1, (1, (.t 59))), (2, (1, (.t 60)))])⟩, ⟨(some 62), none, (.call f_slices_Concat_Range [(.t 61)])⟩, 
  ⟨(some 4), none, (.mv (.t 62))⟩, ⟨(some 5), none, (.mv (.k (.int .i64 0)))⟩]) .ret)))))⟩
theorem c_span_Put : compF Try.prog ⟨some 52, some 53⟩ Try.f11 = some r_span_Put := by kernel_rfl
/-- tenancy/tenancyref03.Put -/
def r_r03_Put : RF :=
  ⟨25, [(.tmp 4), (.tmp 5)], (.seq (.reg [⟨(some 3), none, (.box (some 4) (.t 1))⟩, ⟨(some 4), none, (.mv (.k .nils))⟩, ⟨(some 5), none, (.mv (.k (.int .i64 0)))⟩]) (.seq (.seq 
  (.reg [⟨(some 7), none, (.mv (.t 0))⟩, ⟨(some 8), none, (.call f_r03_Sound [(.t 7)])⟩, ⟨(some 9), none, (.un .not (.t 8))⟩, ⟨(some 10), none, (.mv (.t 9))⟩, 
  ⟨(some 11), (some (10, false)), (.off 0 (.t 3))⟩, ⟨(some 12), (some (10, false)), (.ld (some 2) (.t 11))⟩, ⟨(some 13), (some (10, false)), (.off 2 (.t 3))⟩, 
  ⟨(some 14), (some (10, false)), (.ld (some 2) (.t 13))⟩, ⟨(some 15), (some (10, false)), (.call f_r03_le [(.t 12), (.t 14)])⟩, ⟨(some 16), (some (10, false)), (.un .not (.t 15))⟩, 
  ⟨(some 17), none, (.pick (.t 10) (.k (.bool true)) (.t 16))⟩]) (.cond (.t 17) (.seq (.reg [⟨(some 4), none, (.mv (.k .nils))⟩, 
  ⟨(some 5), none, (.mv (.k (.int .i64 1)))⟩]) .ret) .skip)) (.seq (.reg [⟨(some 18), none, (.ld (some 4) (.t 3))⟩, 
  ⟨(some 19), none, (.bsl 4 1 [(.int .u64 0), (.int .u64 0), (.int .u64 0), (.int .u64 0)] [(0, (4, (.t 18)))])⟩, ⟨(some 6), none, (.mv (.t 19))⟩]) (.seq 
  (.reg [⟨(some 20), none, (.mv (.t 6))⟩, ⟨(some 21), none, (.mv (.t 0))⟩, ⟨(some 22), none, (.app 4 32 (.t 20) (.t 21))⟩, ⟨(some 6), none, (.mv (.t 22))⟩]) (.seq 
  (.reg [⟨(some 23), none, (.mv (.t 6))⟩, ⟨(some 24), none, (.call f_r03_made [(.t 23), (.k .nils)])⟩, ⟨(some 4), none, (.mv (.t 24))⟩, 
  ⟨(some 5), none, (.mv (.k (.int .i64 0)))⟩]) .ret)))))⟩
theorem c_r03_Put : compF Try.prog ⟨some 52, some 53⟩ Try.f12 = some r_r03_Put := by kernel_rfl
/-- tenancy/tenancylaw03.same -/
def r_w03_same : RF :=
  ⟨26, [(.tmp 4)], (.seq (.reg [⟨(some 4), none, (.mv (.k (.bool false)))⟩]) (.seq (.seq (.reg [⟨(some 6), none, (.mv (.t 0))⟩, ⟨(some 7), none, (.lenl (.t 6))⟩, 
  ⟨(some 8), none, (.mv (.t 1))⟩, ⟨(some 9), none, (.lenl (.t 8))⟩, ⟨(some 10), none, (.eq true .i (.t 7) (.t 9))⟩]) (.cond (.t 10) (.seq 
  (.reg [⟨(some 4), none, (.mv (.k (.bool false)))⟩]) .ret) .skip)) (.seq (.seq (.reg [⟨(some 5), none, (.mv (.k (.int .i64 0)))⟩]) (.block 0 (.loop (.seq (.seq 
  (.reg [⟨(some 11), none, (.mv (.t 5))⟩, ⟨(some 12), none, (.mv (.t 0))⟩, ⟨(some 13), none, (.lenl (.t 12))⟩, ⟨(some 14), none, (.bin .lss (.t 11) (.t 13))⟩]) 
  (.cond (.t 14) .skip (.exit 0))) (.seq (.block 1 (.seq (.drw 0 [⟨⟨(some 17), none, (.mv (.t 0))⟩, .pure, [], []⟩, ⟨⟨(some 18), none, (.mv (.t 5))⟩, .pure, [], []⟩, 
  ⟨⟨(some 19), none, (.ixa 4 (.t 17) (.t 18))⟩, .pure, [], []⟩, ⟨⟨(some 20), none, (.ld (some 4) (.t 19))⟩, .ld, [], []⟩, ⟨⟨(some 21), none, (.mv (.t 1))⟩, .pure, [3], []⟩, 
  ⟨⟨(some 22), none, (.mv (.t 5))⟩, .pure, [3], []⟩, ⟨⟨(some 23), none, (.ixa 4 (.t 21) (.t 22))⟩, .pure, [3], []⟩, ⟨⟨(some 24), none, (.ld (some 4) (.t 23))⟩, .ld, [], []⟩, 
  ⟨⟨(some 25), none, (.eq true (.st (.sub 0 2 (.st (.one 0 .i (.one 1 .i .nil))) (.sub 2 2 (.st (.one 0 .i (.one 1 .i .nil))) .nil))) (.t 20) (.t 24))⟩, .pure, [], []⟩]) 
  (.cond (.t 25) (.seq (.reg [⟨(some 4), none, (.mv (.k (.bool false)))⟩]) .ret) .skip))) (.reg [⟨(some 15), none, (.mv (.t 5))⟩, 
  ⟨(some 16), none, (.bin .add (.t 15) (.k (.int .i64 1)))⟩, ⟨(some 5), none, (.mv (.t 16))⟩])))))) (.seq (.reg [⟨(some 4), none, (.mv (.k (.bool true)))⟩]) .ret))))⟩
theorem c_w03_same : compF Try.prog ⟨some 52, some 53⟩ Try.f13 = some r_w03_same := by kernel_rfl
/-- tenancy/span.Sound -/
def r_span_Sound : RF :=
  ⟨30, [(.tmp 2)], (.seq (.reg [⟨(some 2), none, (.mv (.k (.bool false)))⟩]) (.seq (.seq (.reg [⟨(some 5), none, (.mv (.t 0))⟩, ⟨(some 6), none, (.lenl (.t 5))⟩, 
  ⟨(some 7), none, (.mv (.k (.int .i64 0)))⟩]) (.block 0 (.loop (.seq (.reg [⟨(some 8), none, (.bin .lss (.t 7) (.t 6))⟩]) (.seq (.cond (.t 8) .skip (.exit 0)) (.seq (.block 1 (.seq 
  (.reg [⟨(some 9), none, (.mv (.t 7))⟩, ⟨(some 10), none, (.ixa 4 (.t 5) (.t 7))⟩, ⟨(some 11), none, (.ld (some 4) (.t 10))⟩, 
  ⟨(some 4), none, (.new [(.int .u64 0), (.int .u64 0), (.int .u64 0), (.int .u64 0)])⟩, ⟨(some 3), none, (.mv (.t 9))⟩, ⟨none, none, (.st (some 4) (.t 4) (.t 11))⟩]) (.seq 
  (.drw 0 [⟨⟨(some 12), none, (.ld (some 4) (.t 4))⟩, .ld, [], []⟩, ⟨⟨(some 13), none, (.call f_span_isRange [(.t 12)])⟩, .eff, [], []⟩, 
  ⟨⟨(some 14), none, (.un .not (.t 13))⟩, .pure, [], []⟩, ⟨⟨(some 15), none, (.mv (.t 14))⟩, .pure, [], []⟩, ⟨⟨(some 16), (some (15, false)), (.mv (.t 3))⟩, .pure, [], []⟩, 
  ⟨⟨(some 17), (some (15, false)), (.bin .gtr (.t 16) (.k (.int .i64 0)))⟩, .pure, [], []⟩, ⟨⟨(some 18), (some (15, false)), (.mv (.t 17))⟩, .pure, [], []⟩, 
  ⟨⟨(some 19), (some (18, true)), (.mv (.t 0))⟩, .pure, [], []⟩, ⟨⟨(some 20), (some (18, true)), (.mv (.t 3))⟩, .pure, [], []⟩, 
  ⟨⟨(some 21), (some (18, true)), (.bin .sub (.t 20) (.k (.int .i64 1)))⟩, .pure, [], []⟩, ⟨⟨(some 22), (some (18, true)), (.ixa 4 (.t 19) (.t 21))⟩, .pure, [], []⟩, 
  ⟨⟨(some 23), (some (18, true)), (.ld (some 4) (.t 22))⟩, .ld, [], []⟩, ⟨⟨(some 24), (some (18, true)), (.ld (some 4) (.t 4))⟩, .ld, [], []⟩, 
  ⟨⟨(some 25), (some (18, true)), (.call f_span_apart [(.t 23), (.t 24)])⟩, .eff, [], []⟩, ⟨⟨(some 26), (some (18, true)), (.un .not (.t 25))⟩, .pure, [], []⟩, 
  ⟨⟨(some 27), (some (15, false)), (.pick (.t 18) (.t 26) (.k (.bool false)))⟩, .pure, [], []⟩, ⟨⟨(some 28), none, (.pick (.t 15) (.k (.bool true)) (.t 27))⟩, .pure, [], []⟩]) 
  (.cond (.t 28) (.seq (.reg [⟨(some 2), none, (.mv (.k (.bool false)))⟩]) .ret) .skip)))) (.reg [⟨(some 29), none, (.bin .add (.t 7) (.k (.int .i64 1)))⟩, 
  ⟨(some 7), none, (.mv (.t 29))⟩]))))))) (.seq (.reg [⟨(some 2), none, (.mv (.k (.bool true)))⟩]) .ret)))⟩
theorem c_span_Sound : compF Try.prog ⟨some 52, some 53⟩ Try.f14 = some r_span_Sound := by kernel_rfl
/-- tenancy/tenancyref03.Sound -/
def r_r03_Sound : RF :=
  ⟨47, [(.tmp 2)], (.seq (.reg [⟨(some 2), none, (.mv (.k (.bool false)))⟩]) (.seq (.seq (.reg [⟨(some 3), none, (.mv (.k (.int .i64 0)))⟩]) (.block 0 (.loop (.seq (.seq 
  (.reg [⟨(some 6), none, (.mv (.t 3))⟩, ⟨(some 7), none, (.mv (.t 0))⟩, ⟨(some 8), none, (.lenl (.t 7))⟩, ⟨(some 9), none, (.bin .lss (.t 6) (.t 8))⟩]) 
  (.cond (.t 9) .skip (.exit 0))) (.seq (.block 1 (.seq (.seq (.drw 0 [⟨⟨(some 12), none, (.mv (.t 0))⟩, .pure, [], []⟩, ⟨⟨(some 13), none, (.mv (.t 3))⟩, .pure, [], []⟩, 
  ⟨⟨(some 14), none, (.ixa 4 (.t 12) (.t 13))⟩, .pure, [], []⟩, ⟨⟨(some 15), none, (.off 0 (.t 14))⟩, .pure, [], []⟩, ⟨⟨(some 16), none, (.ld (some 2) (.t 15))⟩, .ld, [], []⟩, 
  ⟨⟨(some 17), none, (.mv (.t 0))⟩, .pure, [4], []⟩, ⟨⟨(some 18), none, (.mv (.t 3))⟩, .pure, [4], []⟩, ⟨⟨(some 19), none, (.ixa 4 (.t 17) (.t 18))⟩, .pure, [4], []⟩, 
  ⟨⟨(some 20), none, (.off 2 (.t 19))⟩, .pure, [4], []⟩, ⟨⟨(some 21), none, (.ld (some 2) (.t 20))⟩, .ld, [], []⟩, 
  ⟨⟨(some 22), none, (.call f_r03_le [(.t 16), (.t 21)])⟩, .eff, [], []⟩, ⟨⟨(some 23), none, (.un .not (.t 22))⟩, .pure, [], []⟩]) (.cond (.t 23) (.seq 
  (.reg [⟨(some 2), none, (.mv (.k (.bool false)))⟩]) .ret) .skip)) (.seq (.reg [⟨(some 24), none, (.mv (.t 3))⟩, ⟨(some 25), none, (.bin .gtr (.t 24) (.k (.int .i64 0)))⟩]) 
  (.cond (.t 25) (.seq (.reg [⟨(some 27), none, (.mv (.t 0))⟩, ⟨(some 28), none, (.mv (.t 3))⟩, ⟨(some 29), none, (.bin .sub (.t 28) (.k (.int .i64 1)))⟩, 
  ⟨(some 30), none, (.ixa 4 (.t 27) (.t 29))⟩, ⟨(some 31), none, (.off 2 (.t 30))⟩, ⟨(some 32), none, (.ld (some 2) (.t 31))⟩, ⟨(some 33), none, (.call f_r03_next [(.t 32)])⟩, 
  ⟨(some 26), none, (.mv (.t 33))⟩, ⟨(some 34), none, (.ext 0 (.t 26))⟩, ⟨(some 35), none, (.ext 1 (.t 26))⟩, ⟨(some 4), none, (.new [(.int .u64 0), (.int .u64 0)])⟩, 
  ⟨none, none, (.st (some 2) (.t 4) (.t 34))⟩, ⟨(some 5), none, (.mv (.t 35))⟩]) (.seq (.drw 0 [⟨⟨(some 36), none, (.mv (.t 5))⟩, .pure, [], []⟩, 
  ⟨⟨(some 37), none, (.un .not (.t 36))⟩, .pure, [], []⟩, ⟨⟨(some 38), none, (.mv (.t 37))⟩, .pure, [], []⟩, ⟨⟨(some 39), (some (38, false)), (.mv (.t 0))⟩, .pure, [], []⟩, 
  ⟨⟨(some 40), (some (38, false)), (.mv (.t 3))⟩, .pure, [], []⟩, ⟨⟨(some 41), (some (38, false)), (.ixa 4 (.t 39) (.t 40))⟩, .pure, [], []⟩, 
  ⟨⟨(some 42), (some (38, false)), (.off 0 (.t 41))⟩, .pure, [], []⟩, ⟨⟨(some 43), (some (38, false)), (.ld (some 2) (.t 42))⟩, .ld, [], []⟩, 
  ⟨⟨(some 44), (some (38, false)), (.ld (some 2) (.t 4))⟩, .ld, [], []⟩, ⟨⟨(some 45), (some (38, false)), (.call f_r03_le [(.t 43), (.t 44)])⟩, .eff, [], []⟩, 
  ⟨⟨(some 46), none, (.pick (.t 38) (.k (.bool true)) (.t 45))⟩, .pure, [], []⟩]) (.cond (.t 46) (.seq (.reg [⟨(some 2), none, (.mv (.k (.bool false)))⟩]) .ret) .skip))) .skip)))) 
  (.reg [⟨(some 10), none, (.mv (.t 3))⟩, ⟨(some 11), none, (.bin .add (.t 10) (.k (.int .i64 1)))⟩, ⟨(some 3), none, (.mv (.t 11))⟩])))))) (.seq 
  (.reg [⟨(some 2), none, (.mv (.k (.bool true)))⟩]) .ret)))⟩
theorem c_r03_Sound : compF Try.prog ⟨some 52, some 53⟩ Try.f15 = some r_r03_Sound := by kernel_rfl
/-- tenancy/span.Drop -/
def r_span_Drop : RF :=
  ⟨83, [(.tmp 4), (.tmp 5)], (.seq (.reg [⟨(some 3), none, (.box (some 4) (.t 1))⟩, ⟨(some 4), none, (.mv (.k .nils))⟩, ⟨(some 5), none, (.mv (.k (.int .i64 0)))⟩]) (.seq (.seq 
  (.reg [⟨(some 13), none, (.mv (.t 0))⟩, ⟨(some 14), none, (.call f_span_Sound [(.t 13)])⟩, ⟨(some 15), none, (.un .not (.t 14))⟩, ⟨(some 16), none, (.mv (.t 15))⟩, 
  ⟨(some 17), (some (16, false)), (.ld (some 4) (.t 3))⟩, ⟨(some 18), (some (16, false)), (.call f_span_isRange [(.t 17)])⟩, ⟨(some 19), (some (16, false)), (.un .not (.t 18))⟩, 
  ⟨(some 20), none, (.pick (.t 16) (.k (.bool true)) (.t 19))⟩]) (.cond (.t 20) (.seq (.reg [⟨(some 4), none, (.mv (.k .nils))⟩, 
  ⟨(some 5), none, (.mv (.k (.int .i64 1)))⟩]) .ret) .skip)) (.seq (.reg [⟨(some 6), none, (.mv (.k .nils))⟩]) (.seq (.seq (.reg [⟨(some 21), none, (.mv (.t 0))⟩, 
  ⟨(some 22), none, (.lenl (.t 21))⟩, ⟨(some 23), none, (.mv (.k (.int .i64 0)))⟩]) (.block 0 (.loop (.seq (.reg [⟨(some 24), none, (.bin .lss (.t 23) (.t 22))⟩]) (.seq 
  (.cond (.t 24) .skip (.exit 0)) (.seq (.block 1 (.seq (.reg [⟨(some 25), none, (.ixa 4 (.t 21) (.t 23))⟩, ⟨(some 26), none, (.ld (some 4) (.t 25))⟩, 
  ⟨(some 8), none, (.new [(.int .u64 0), (.int .u64 0), (.int .u64 0), (.int .u64 0)])⟩, ⟨none, none, (.st (some 4) (.t 8) (.t 26))⟩]) (.seq (.seq 
  (.reg [⟨(some 27), none, (.off 2 (.t 8))⟩, ⟨(some 28), none, (.ld (some 2) (.t 27))⟩, ⟨(some 29), none, (.off 0 (.t 3))⟩, ⟨(some 30), none, (.ld (some 2) (.t 29))⟩, 
  ⟨(some 31), none, (.call f_span_below [(.t 28), (.t 30)])⟩, ⟨(some 32), none, (.mv (.t 31))⟩, ⟨(some 33), (some (32, false)), (.off 2 (.t 3))⟩, 
  ⟨(some 34), (some (32, false)), (.ld (some 2) (.t 33))⟩, ⟨(some 35), (some (32, false)), (.off 0 (.t 8))⟩, ⟨(some 36), (some (32, false)), (.ld (some 2) (.t 35))⟩, 
  ⟨(some 37), (some (32, false)), (.call f_span_below [(.t 34), (.t 36)])⟩, ⟨(some 38), none, (.pick (.t 32) (.k (.bool true)) (.t 37))⟩]) (.cond (.t 38) (.seq 
  (.reg [⟨(some 39), none, (.mv (.t 6))⟩, ⟨(some 40), none, (.ld (some 4) (.t 8))⟩, 
  ⟨(some 41), none, (.bsl 4 1 [(.int .u64 0), (.int .u64 0), (.int .u64 0), (.int .u64 0)] [(0, (4, (.t 40)))])⟩, ⟨(some 42), none, (.app 4 32 (.t 39) (.t 41))⟩, 
  ⟨(some 6), none, (.mv (.t 42))⟩]) (.exit 1)) .skip)) (.seq (.seq (.reg [⟨(some 43), none, (.off 0 (.t 8))⟩, ⟨(some 44), none, (.ld (some 2) (.t 43))⟩, 
  ⟨(some 45), none, (.off 0 (.t 3))⟩, ⟨(some 46), none, (.ld (some 2) (.t 45))⟩, ⟨(some 47), none, (.call f_span_below [(.t 44), (.t 46)])⟩]) (.cond (.t 47) (.seq 
  (.drw 1 [⟨⟨(some 49), none, (.off 0 (.t 3))⟩, .pure, [], []⟩, ⟨⟨(some 50), none, (.ld (some 2) (.t 49))⟩, .ld, [], []⟩, ⟨⟨(some 51), none, (.call f_span_one [])⟩, .eff, [1], [0]⟩, 
  ⟨⟨(some 52), none, (.call f_addr_Sub [(.t 50), (.t 51)])⟩, .eff, [], [0]⟩, ⟨⟨(some 48), none, (.mv (.t 52))⟩, .pure, [], []⟩, ⟨⟨(some 53), none, (.ext 0 (.t 48))⟩, .pure, [], []⟩, 
  ⟨⟨(some 54), none, (.ext 1 (.t 48))⟩, .pure, [], []⟩, ⟨⟨(some 9), none, (.new [(.int .u64 0), (.int .u64 0)])⟩, (.new 0), [1], []⟩, 
  ⟨⟨none, none, (.st (some 2) (.t 9) (.t 53))⟩, .eff, [], []⟩, ⟨⟨(some 10), none, (.mv (.t 54))⟩, .pure, [], []⟩]) (.reg [⟨(some 55), none, (.mv (.t 6))⟩, 
  ⟨(some 56), none, (.off 0 (.t 8))⟩, ⟨(some 57), none, (.ld (some 2) (.t 56))⟩, ⟨(some 58), none, (.ld (some 2) (.t 9))⟩, 
  ⟨(some 59), none, (.bld [(.int .u64 0), (.int .u64 0), (.int .u64 0), (.int .u64 0)] [(0, (2, (.t 57))), (2, (2, (.t 58)))])⟩, 
  ⟨(some 60), none, (.bsl 4 1 [(.int .u64 0), (.int .u64 0), (.int .u64 0), (.int .u64 0)] [(0, (4, (.t 59)))])⟩, ⟨(some 61), none, (.app 4 32 (.t 55) (.t 60))⟩, 
  ⟨(some 6), none, (.mv (.t 61))⟩])) .skip)) (.seq (.reg [⟨(some 62), none, (.off 2 (.t 3))⟩, ⟨(some 63), none, (.ld (some 2) (.t 62))⟩, ⟨(some 64), none, (.off 2 (.t 8))⟩, 
  ⟨(some 65), none, (.ld (some 2) (.t 64))⟩, ⟨(some 66), none, (.call f_span_below [(.t 63), (.t 65)])⟩]) (.cond (.t 66) (.seq 
  (.drw 1 [⟨⟨(some 68), none, (.off 2 (.t 3))⟩, .pure, [], []⟩, ⟨⟨(some 69), none, (.ld (some 2) (.t 68))⟩, .ld, [], []⟩, ⟨⟨(some 70), none, (.call f_span_one [])⟩, .eff, [1], [0]⟩, 
  ⟨⟨(some 71), none, (.call f_addr_Add [(.t 69), (.t 70)])⟩, .eff, [], [0]⟩, ⟨⟨(some 67), none, (.mv (.t 71))⟩, .pure, [], []⟩, ⟨⟨(some 72), none, (.ext 0 (.t 67))⟩, .pure, [], []⟩, 
  ⟨⟨(some 73), none, (.ext 1 (.t 67))⟩, .pure, [], []⟩, ⟨⟨(some 11), none, (.new [(.int .u64 0), (.int .u64 0)])⟩, (.new 0), [1], []⟩, 
  ⟨⟨none, none, (.st (some 2) (.t 11) (.t 72))⟩, .eff, [], []⟩, ⟨⟨(some 12), none, (.mv (.t 73))⟩, .pure, [], []⟩]) (.reg [⟨(some 74), none, (.mv (.t 6))⟩, 
  ⟨(some 75), none, (.ld (some 2) (.t 11))⟩, ⟨(some 76), none, (.off 2 (.t 8))⟩, ⟨(some 77), none, (.ld (some 2) (.t 76))⟩, 
  ⟨(some 78), none, (.bld [(.int .u64 0), (.int .u64 0), (.int .u64 0), (.int .u64 0)] [(0, (2, (.t 75))), (2, (2, (.t 77)))])⟩, 
  ⟨(some 79), none, (.bsl 4 1 [(.int .u64 0), (.int .u64 0), (.int .u64 0), (.int .u64 0)] [(0, (4, (.t 78)))])⟩, ⟨(some 80), none, (.app 4 32 (.t 74) (.t 79))⟩, 
  ⟨(some 6), none, (.mv (.t 80))⟩])) .skip)))))) (.reg [⟨(some 81), none, (.bin .add (.t 23) (.k (.int .i64 1)))⟩, ⟨(some 23), none, (.mv (.t 81))⟩]))))))) (.seq 
  (.reg [⟨(some 82), none, (.mv (.t 6))⟩, ⟨(some 4), none, (.mv (.t 82))⟩, ⟨(some 5), none, (.mv (.k (.int .i64 0)))⟩]) .ret)))))⟩
theorem c_span_Drop : compF Try.prog ⟨some 52, some 53⟩ Try.f16 = some r_span_Drop := by kernel_rfl
/-- tenancy/tenancyref03.Drop -/
def r_r03_Drop : RF :=
  ⟨21, [(.tmp 4), (.tmp 5)], (.seq (.reg [⟨(some 3), none, (.box (some 4) (.t 1))⟩, ⟨(some 4), none, (.mv (.k .nils))⟩, ⟨(some 5), none, (.mv (.k (.int .i64 0)))⟩]) (.seq (.seq 
  (.reg [⟨(some 6), none, (.mv (.t 0))⟩, ⟨(some 7), none, (.call f_r03_Sound [(.t 6)])⟩, ⟨(some 8), none, (.un .not (.t 7))⟩, ⟨(some 9), none, (.mv (.t 8))⟩, 
  ⟨(some 10), (some (9, false)), (.off 0 (.t 3))⟩, ⟨(some 11), (some (9, false)), (.ld (some 2) (.t 10))⟩, ⟨(some 12), (some (9, false)), (.off 2 (.t 3))⟩, 
  ⟨(some 13), (some (9, false)), (.ld (some 2) (.t 12))⟩, ⟨(some 14), (some (9, false)), (.call f_r03_le [(.t 11), (.t 13)])⟩, ⟨(some 15), (some (9, false)), (.un .not (.t 14))⟩, 
  ⟨(some 16), none, (.pick (.t 9) (.k (.bool true)) (.t 15))⟩]) (.cond (.t 16) (.seq (.reg [⟨(some 4), none, (.mv (.k .nils))⟩, 
  ⟨(some 5), none, (.mv (.k (.int .i64 1)))⟩]) .ret) .skip)) (.seq (.reg [⟨(some 17), none, (.mv (.t 0))⟩, ⟨(some 18), none, (.ld (some 4) (.t 3))⟩, 
  ⟨(some 19), none, (.bsl 4 1 [(.int .u64 0), (.int .u64 0), (.int .u64 0), (.int .u64 0)] [(0, (4, (.t 18)))])⟩, ⟨(some 20), none, (.call f_r03_made [(.t 17), (.t 19)])⟩, 
  ⟨(some 4), none, (.mv (.t 20))⟩, ⟨(some 5), none, (.mv (.k (.int .i64 0)))⟩]) .ret)))⟩
theorem c_r03_Drop : compF Try.prog ⟨some 52, some 53⟩ Try.f17 = some r_r03_Drop := by kernel_rfl
/-- tenancy/span.Less -/
def r_span_Less : RF :=
  ⟨33, [(.tmp 4), (.tmp 5)], (.seq (.reg [⟨(some 4), none, (.mv (.k .nils))⟩, ⟨(some 5), none, (.mv (.k (.int .i64 0)))⟩]) (.seq (.seq (.reg [⟨(some 9), none, (.mv (.t 0))⟩, 
  ⟨(some 10), none, (.call f_span_Sound [(.t 9)])⟩, ⟨(some 11), none, (.un .not (.t 10))⟩, ⟨(some 12), none, (.mv (.t 11))⟩, ⟨(some 13), (some (12, false)), (.mv (.t 1))⟩, 
  ⟨(some 14), (some (12, false)), (.call f_span_Sound [(.t 13)])⟩, ⟨(some 15), (some (12, false)), (.un .not (.t 14))⟩, 
  ⟨(some 16), none, (.pick (.t 12) (.k (.bool true)) (.t 15))⟩]) (.cond (.t 16) (.seq (.reg [⟨(some 4), none, (.mv (.k .nils))⟩, 
  ⟨(some 5), none, (.mv (.k (.int .i64 1)))⟩]) .ret) .skip)) (.seq (.reg [⟨(some 17), none, (.mv (.t 0))⟩, ⟨(some 18), none, (.call f_slices_Clone_Range [(.t 17)])⟩, 
  ⟨(some 6), none, (.mv (.t 18))⟩]) (.seq (.seq (.reg [⟨(some 19), none, (.mv (.t 1))⟩, ⟨(some 20), none, (.lenl (.t 19))⟩, ⟨(some 21), none, (.mv (.k (.int .i64 0)))⟩]) (.block 0 
  (.loop (.seq (.reg [⟨(some 22), none, (.bin .lss (.t 21) (.t 20))⟩]) (.seq (.cond (.t 22) .skip (.exit 0)) (.seq (.block 1 (.seq 
  (.reg [⟨(some 23), none, (.ixa 4 (.t 19) (.t 21))⟩, ⟨(some 24), none, (.ld (some 4) (.t 23))⟩, 
  ⟨(some 8), none, (.new [(.int .u64 0), (.int .u64 0), (.int .u64 0), (.int .u64 0)])⟩, ⟨none, none, (.st (some 4) (.t 8) (.t 24))⟩]) (.reg [⟨(some 26), none, (.mv (.t 6))⟩, 
  ⟨(some 27), none, (.ld (some 4) (.t 8))⟩, ⟨(some 28), none, (.call f_span_Drop [(.t 26), (.t 27)])⟩, ⟨(some 25), none, (.mv (.t 28))⟩, ⟨(some 29), none, (.ext 0 (.t 25))⟩, 
  ⟨(some 30), none, (.ext 1 (.t 25))⟩, ⟨(some 6), none, (.mv (.t 29))⟩]))) (.reg [⟨(some 31), none, (.bin .add (.t 21) (.k (.int .i64 1)))⟩, ⟨(some 21), none, (.mv (.t 31))⟩]))))))) 
  (.seq (.reg [⟨(some 32), none, (.mv (.t 6))⟩, ⟨(some 4), none, (.mv (.t 32))⟩, ⟨(some 5), none, (.mv (.k (.int .i64 0)))⟩]) .ret)))))⟩
theorem c_span_Less : compF Try.prog ⟨some 52, some 53⟩ Try.f18 = some r_span_Less := by kernel_rfl
/-- tenancy/tenancyref03.Less -/
def r_r03_Less : RF :=
  ⟨17, [(.tmp 4), (.tmp 5)], (.seq (.reg [⟨(some 4), none, (.mv (.k .nils))⟩, ⟨(some 5), none, (.mv (.k (.int .i64 0)))⟩]) (.seq (.seq (.reg [⟨(some 6), none, (.mv (.t 0))⟩, 
  ⟨(some 7), none, (.call f_r03_Sound [(.t 6)])⟩, ⟨(some 8), none, (.un .not (.t 7))⟩, ⟨(some 9), none, (.mv (.t 8))⟩, ⟨(some 10), (some (9, false)), (.mv (.t 1))⟩, 
  ⟨(some 11), (some (9, false)), (.call f_r03_Sound [(.t 10)])⟩, ⟨(some 12), (some (9, false)), (.un .not (.t 11))⟩, ⟨(some 13), none, (.pick (.t 9) (.k (.bool true)) (.t 12))⟩]) 
  (.cond (.t 13) (.seq (.reg [⟨(some 4), none, (.mv (.k .nils))⟩, ⟨(some 5), none, (.mv (.k (.int .i64 1)))⟩]) .ret) .skip)) (.seq (.reg [⟨(some 14), none, (.mv (.t 0))⟩, 
  ⟨(some 15), none, (.mv (.t 1))⟩, ⟨(some 16), none, (.call f_r03_made [(.t 14), (.t 15)])⟩, ⟨(some 4), none, (.mv (.t 16))⟩, ⟨(some 5), none, (.mv (.k (.int .i64 0)))⟩]) .ret)))⟩
theorem c_r03_Less : compF Try.prog ⟨some 52, some 53⟩ Try.f19 = some r_r03_Less := by kernel_rfl
/-- tenancy/span.Count -/
def r_span_Count : RF :=
  ⟨49, [(.cell (some 2) 2), (.tmp 3)], (.seq (.reg [⟨(some 2), none, (.new [(.int .u64 0), (.int .u64 0)])⟩, ⟨(some 3), none, (.mv (.k (.bool false)))⟩]) (.seq 
  (.reg [⟨(some 4), none, (.new [(.int .u64 0), (.int .u64 0)])⟩]) (.seq (.seq (.reg [⟨(some 9), none, (.mv (.t 0))⟩, ⟨(some 10), none, (.call f_span_Sound [(.t 9)])⟩, 
  ⟨(some 11), none, (.un .not (.t 10))⟩]) (.cond (.t 11) (.seq (.reg [⟨(some 12), none, (.ld (some 2) (.t 4))⟩, ⟨none, none, (.st (some 2) (.t 2) (.t 12))⟩, 
  ⟨(some 3), none, (.mv (.k (.bool false)))⟩]) .ret) .skip)) (.seq (.seq (.reg [⟨(some 13), none, (.mv (.t 0))⟩, ⟨(some 14), none, (.lenl (.t 13))⟩, 
  ⟨(some 15), none, (.mv (.k (.int .i64 0)))⟩]) (.block 0 (.loop (.seq (.reg [⟨(some 16), none, (.bin .lss (.t 15) (.t 14))⟩]) (.seq (.cond (.t 16) .skip (.exit 0)) (.seq (.block 1 
  (.seq (.reg [⟨(some 17), none, (.ixa 4 (.t 13) (.t 15))⟩, ⟨(some 18), none, (.ld (some 4) (.t 17))⟩, 
  ⟨(some 6), none, (.new [(.int .u64 0), (.int .u64 0), (.int .u64 0), (.int .u64 0)])⟩, ⟨none, none, (.st (some 4) (.t 6) (.t 18))⟩]) (.seq 
  (.reg [⟨(some 20), none, (.off 2 (.t 6))⟩, ⟨(some 21), none, (.ld (some 2) (.t 20))⟩, ⟨(some 22), none, (.off 0 (.t 6))⟩, ⟨(some 23), none, (.ld (some 2) (.t 22))⟩, 
  ⟨(some 24), none, (.call f_addr_Sub [(.t 21), (.t 23)])⟩, ⟨(some 19), none, (.mv (.t 24))⟩, ⟨(some 25), none, (.ext 0 (.t 19))⟩, ⟨(some 26), none, (.ext 1 (.t 19))⟩, 
  ⟨(some 7), none, (.new [(.int .u64 0), (.int .u64 0)])⟩, ⟨none, none, (.st (some 2) (.t 7) (.t 25))⟩, ⟨(some 8), none, (.mv (.t 26))⟩]) (.seq 
  (.reg [⟨(some 28), none, (.ld (some 2) (.t 4))⟩, ⟨(some 29), none, (.ld (some 2) (.t 7))⟩, ⟨(some 30), none, (.call f_addr_Add [(.t 28), (.t 29)])⟩, 
  ⟨(some 27), none, (.mv (.t 30))⟩, ⟨(some 31), none, (.ext 0 (.t 27))⟩, ⟨(some 32), none, (.ext 1 (.t 27))⟩, ⟨none, none, (.st (some 2) (.t 4) (.t 31))⟩]) 
  (.drw 0 [⟨⟨(some 34), none, (.ld (some 2) (.t 4))⟩, .ld, [], []⟩, ⟨⟨(some 35), none, (.call f_span_one [])⟩, .eff, [0], []⟩, 
  ⟨⟨(some 36), none, (.call f_addr_Add [(.t 34), (.t 35)])⟩, .eff, [], []⟩, ⟨⟨(some 33), none, (.mv (.t 36))⟩, .pure, [], []⟩, ⟨⟨(some 37), none, (.ext 0 (.t 33))⟩, .pure, [], []⟩, 
  ⟨⟨(some 38), none, (.ext 1 (.t 33))⟩, .pure, [], []⟩, ⟨⟨none, none, (.st (some 2) (.t 4) (.t 37))⟩, .eff, [], []⟩]))))) 
  (.reg [⟨(some 39), none, (.bin .add (.t 15) (.k (.int .i64 1)))⟩, ⟨(some 15), none, (.mv (.t 39))⟩]))))))) (.seq (.drw 0 [⟨⟨(some 40), none, (.ld (some 2) (.t 4))⟩, .ld, [], []⟩, 
  ⟨⟨(some 41), none, (.mv (.t 0))⟩, .pure, [0], []⟩, ⟨⟨(some 42), none, (.lenl (.t 41))⟩, .pure, [0], []⟩, 
  ⟨⟨(some 43), none, (.bin .gtr (.t 42) (.k (.int .i64 0)))⟩, .pure, [0], []⟩, ⟨⟨(some 44), none, (.mv (.t 43))⟩, .pure, [0], []⟩, 
  ⟨⟨(some 45), (some (44, true)), (.ld (some 2) (.t 4))⟩, .ld, [], []⟩, ⟨⟨(some 46), (some (44, true)), (.bld [(.int .u64 0), (.int .u64 0)] [])⟩, .pure, [0, 5], []⟩, 
  ⟨⟨(some 47), (some (44, true)), (.eq false (.st (.one 0 .i (.one 1 .i .nil))) (.t 45) (.t 46))⟩, .pure, [0], []⟩, 
  ⟨⟨(some 48), none, (.pick (.t 44) (.t 47) (.k (.bool false)))⟩, .pure, [0], []⟩, ⟨⟨none, none, (.st (some 2) (.t 2) (.t 40))⟩, .eff, [5], []⟩, 
  ⟨⟨(some 3), none, (.mv (.t 48))⟩, .pure, [], []⟩]) .ret)))))⟩
theorem c_span_Count : compF Try.prog ⟨some 52, some 53⟩ Try.f20 = some r_span_Count := by kernel_rfl
/-- tenancy/tenancyref03.Count -/
def r_r03_Count : RF :=
  ⟨36, [(.cell (some 2) 2), (.tmp 3)], (.seq (.reg [⟨(some 2), none, (.new [(.int .u64 0), (.int .u64 0)])⟩, ⟨(some 3), none, (.mv (.k (.bool false)))⟩]) (.seq 
  (.reg [⟨(some 6), none, (.bld [(.int .u64 0), (.int .u64 0)] [])⟩, ⟨(some 4), none, (.new [(.int .u64 0), (.int .u64 0)])⟩, ⟨none, none, (.st (some 2) (.t 4) (.t 6))⟩]) (.seq 
  (.seq (.reg [⟨(some 7), none, (.mv (.t 0))⟩, ⟨(some 8), none, (.call f_r03_Sound [(.t 7)])⟩, ⟨(some 9), none, (.un .not (.t 8))⟩]) (.cond (.t 9) (.seq 
  (.reg [⟨(some 10), none, (.ld (some 2) (.t 4))⟩, ⟨none, none, (.st (some 2) (.t 2) (.t 10))⟩, ⟨(some 3), none, (.mv (.k (.bool false)))⟩]) .ret) .skip)) (.seq (.seq 
  (.reg [⟨(some 5), none, (.mv (.k (.int .i64 0)))⟩]) (.block 0 (.loop (.seq (.seq (.reg [⟨(some 11), none, (.mv (.t 5))⟩, ⟨(some 12), none, (.mv (.t 0))⟩, 
  ⟨(some 13), none, (.lenl (.t 12))⟩, ⟨(some 14), none, (.bin .lss (.t 11) (.t 13))⟩]) (.cond (.t 14) .skip (.exit 0))) (.seq (.block 1 
  (.drw 0 [⟨⟨(some 18), none, (.ld (some 2) (.t 4))⟩, .ld, [], []⟩, ⟨⟨(some 19), none, (.mv (.t 0))⟩, .pure, [0], []⟩, ⟨⟨(some 20), none, (.mv (.t 5))⟩, .pure, [0], []⟩, 
  ⟨⟨(some 21), none, (.ixa 4 (.t 19) (.t 20))⟩, .pure, [0], []⟩, ⟨⟨(some 22), none, (.ld (some 4) (.t 21))⟩, .ld, [], []⟩, 
  ⟨⟨(some 23), none, (.call f_r03_size [(.t 22)])⟩, .eff, [0], []⟩, ⟨⟨(some 24), none, (.call f_r01_Add [(.t 18), (.t 23)])⟩, .eff, [], []⟩, 
  ⟨⟨(some 17), none, (.mv (.t 24))⟩, .pure, [], []⟩, ⟨⟨(some 25), none, (.ext 0 (.t 17))⟩, .pure, [], []⟩, ⟨⟨(some 26), none, (.ext 1 (.t 17))⟩, .pure, [], []⟩, 
  ⟨⟨none, none, (.st (some 2) (.t 4) (.t 25))⟩, .eff, [], []⟩])) (.reg [⟨(some 15), none, (.mv (.t 5))⟩, ⟨(some 16), none, (.bin .add (.t 15) (.k (.int .i64 1)))⟩, 
  ⟨(some 5), none, (.mv (.t 16))⟩])))))) (.seq (.drw 0 [⟨⟨(some 27), none, (.ld (some 2) (.t 4))⟩, .ld, [], []⟩, ⟨⟨(some 28), none, (.mv (.t 0))⟩, .pure, [0], []⟩, 
  ⟨⟨(some 29), none, (.lenl (.t 28))⟩, .pure, [0], []⟩, ⟨⟨(some 30), none, (.eq false .i (.t 29) (.k (.int .i64 1)))⟩, .pure, [0], []⟩, 
  ⟨⟨(some 31), none, (.mv (.t 30))⟩, .pure, [0], []⟩, ⟨⟨(some 32), (some (31, true)), (.ld (some 2) (.t 4))⟩, .ld, [], []⟩, 
  ⟨⟨(some 33), (some (31, true)), (.bld [(.int .u64 0), (.int .u64 0)] [])⟩, .pure, [0, 5], []⟩, 
  ⟨⟨(some 34), (some (31, true)), (.eq false (.st (.one 0 .i (.one 1 .i .nil))) (.t 32) (.t 33))⟩, .pure, [0], []⟩, 
  ⟨⟨(some 35), none, (.pick (.t 31) (.t 34) (.k (.bool false)))⟩, .pure, [0], []⟩, ⟨⟨none, none, (.st (some 2) (.t 2) (.t 27))⟩, .eff, [5], []⟩, 
  ⟨⟨(some 3), none, (.mv (.t 35))⟩, .pure, [], []⟩]) .ret)))))⟩
theorem c_r03_Count : compF Try.prog ⟨some 52, some 53⟩ Try.f21 = some r_r03_Count := by kernel_rfl
/-- tenancy/span.Nth -/
def r_span_Nth : RF :=
  ⟨56, [(.cell (some 2) 4), (.tmp 5)], (.seq (.reg [⟨(some 3), none, (.box (some 2) (.t 1))⟩, ⟨(some 4), none, (.new [(.int .u64 0), (.int .u64 0)])⟩, 
  ⟨(some 5), none, (.mv (.k (.bool false)))⟩]) (.seq (.seq (.reg [⟨(some 12), none, (.mv (.t 0))⟩, ⟨(some 13), none, (.call f_span_Sound [(.t 12)])⟩, 
  ⟨(some 14), none, (.un .not (.t 13))⟩]) (.cond (.t 14) (.seq (.reg [⟨(some 15), none, (.bld [(.int .u64 0), (.int .u64 0)] [])⟩, ⟨none, none, (.st (some 2) (.t 4) (.t 15))⟩, 
  ⟨(some 5), none, (.mv (.k (.bool false)))⟩]) .ret) .skip)) (.seq (.seq (.reg [⟨(some 16), none, (.mv (.t 0))⟩, ⟨(some 17), none, (.lenl (.t 16))⟩, 
  ⟨(some 18), none, (.mv (.k (.int .i64 0)))⟩]) (.block 0 (.loop (.seq (.reg [⟨(some 19), none, (.bin .lss (.t 18) (.t 17))⟩]) (.seq (.cond (.t 19) .skip (.exit 0)) (.seq (.block 1 
  (.seq (.reg [⟨(some 20), none, (.ixa 4 (.t 16) (.t 18))⟩, ⟨(some 21), none, (.ld (some 4) (.t 20))⟩, 
  ⟨(some 7), none, (.new [(.int .u64 0), (.int .u64 0), (.int .u64 0), (.int .u64 0)])⟩, ⟨none, none, (.st (some 4) (.t 7) (.t 21))⟩]) (.seq 
  (.reg [⟨(some 23), none, (.off 2 (.t 7))⟩, ⟨(some 24), none, (.ld (some 2) (.t 23))⟩, ⟨(some 25), none, (.off 0 (.t 7))⟩, ⟨(some 26), none, (.ld (some 2) (.t 25))⟩, 
  ⟨(some 27), none, (.call f_addr_Sub [(.t 24), (.t 26)])⟩, ⟨(some 22), none, (.mv (.t 27))⟩, ⟨(some 28), none, (.ext 0 (.t 22))⟩, ⟨(some 29), none, (.ext 1 (.t 22))⟩, 
  ⟨(some 8), none, (.new [(.int .u64 0), (.int .u64 0)])⟩, ⟨none, none, (.st (some 2) (.t 8) (.t 28))⟩, ⟨(some 9), none, (.mv (.t 29))⟩]) (.seq (.seq 
  (.reg [⟨(some 30), none, (.ld (some 2) (.t 8))⟩, ⟨(some 31), none, (.ld (some 2) (.t 3))⟩, ⟨(some 32), none, (.call f_span_below [(.t 30), (.t 31)])⟩, 
  ⟨(some 33), none, (.un .not (.t 32))⟩]) (.cond (.t 33) (.seq (.reg [⟨(some 35), none, (.off 0 (.t 7))⟩, ⟨(some 36), none, (.ld (some 2) (.t 35))⟩, 
  ⟨(some 37), none, (.ld (some 2) (.t 3))⟩, ⟨(some 38), none, (.call f_addr_Add [(.t 36), (.t 37)])⟩, ⟨(some 34), none, (.mv (.t 38))⟩, ⟨(some 39), none, (.ext 0 (.t 34))⟩, 
  ⟨(some 40), none, (.ext 1 (.t 34))⟩, ⟨(some 10), none, (.new [(.int .u64 0), (.int .u64 0)])⟩, ⟨none, none, (.st (some 2) (.t 10) (.t 39))⟩, ⟨(some 11), none, (.mv (.t 40))⟩]) 
  (.seq (.reg [⟨(some 41), none, (.ld (some 2) (.t 10))⟩, ⟨none, none, (.st (some 2) (.t 4) (.t 41))⟩, ⟨(some 5), none, (.mv (.k (.bool true)))⟩]) .ret)) .skip)) (.seq 
  (.reg [⟨(some 43), none, (.ld (some 2) (.t 3))⟩, ⟨(some 44), none, (.ld (some 2) (.t 8))⟩, ⟨(some 45), none, (.call f_addr_Sub [(.t 43), (.t 44)])⟩, 
  ⟨(some 42), none, (.mv (.t 45))⟩, ⟨(some 46), none, (.ext 0 (.t 42))⟩, ⟨(some 47), none, (.ext 1 (.t 42))⟩, ⟨none, none, (.st (some 2) (.t 3) (.t 46))⟩]) 
  (.drw 0 [⟨⟨(some 49), none, (.ld (some 2) (.t 3))⟩, .ld, [], []⟩, ⟨⟨(some 50), none, (.call f_span_one [])⟩, .eff, [0], []⟩, 
  ⟨⟨(some 51), none, (.call f_addr_Sub [(.t 49), (.t 50)])⟩, .eff, [], []⟩, ⟨⟨(some 48), none, (.mv (.t 51))⟩, .pure, [], []⟩, ⟨⟨(some 52), none, (.ext 0 (.t 48))⟩, .pure, [], []⟩, 
  ⟨⟨(some 53), none, (.ext 1 (.t 48))⟩, .pure, [], []⟩, ⟨⟨none, none, (.st (some 2) (.t 3) (.t 52))⟩, .eff, [], []⟩])))))) 
  (.reg [⟨(some 54), none, (.bin .add (.t 18) (.k (.int .i64 1)))⟩, ⟨(some 18), none, (.mv (.t 54))⟩]))))))) (.seq 
  (.reg [⟨(some 55), none, (.bld [(.int .u64 0), (.int .u64 0)] [])⟩, ⟨none, none, (.st (some 2) (.t 4) (.t 55))⟩, ⟨(some 5), none, (.mv (.k (.bool false)))⟩]) .ret))))⟩
theorem c_span_Nth : compF Try.prog ⟨some 52, some 53⟩ Try.f22 = some r_span_Nth := by kernel_rfl
/-- tenancy/tenancyref03.Nth -/
def r_r03_Nth : RF :=
  ⟨61, [(.cell (some 2) 4), (.tmp 5)], (.seq (.reg [⟨(some 3), none, (.box (some 2) (.t 1))⟩, ⟨(some 4), none, (.new [(.int .u64 0), (.int .u64 0)])⟩, 
  ⟨(some 5), none, (.mv (.k (.bool false)))⟩]) (.seq (.seq (.reg [⟨(some 11), none, (.mv (.t 0))⟩, ⟨(some 12), none, (.call f_r03_Sound [(.t 11)])⟩, 
  ⟨(some 13), none, (.un .not (.t 12))⟩]) (.cond (.t 13) (.seq (.reg [⟨(some 14), none, (.bld [(.int .u64 0), (.int .u64 0)] [])⟩, ⟨none, none, (.st (some 2) (.t 4) (.t 14))⟩, 
  ⟨(some 5), none, (.mv (.k (.bool false)))⟩]) .ret) .skip)) (.seq (.seq (.reg [⟨(some 6), none, (.mv (.k (.int .i64 0)))⟩]) (.block 0 (.loop (.seq (.seq 
  (.reg [⟨(some 15), none, (.mv (.t 6))⟩, ⟨(some 16), none, (.mv (.t 0))⟩, ⟨(some 17), none, (.lenl (.t 16))⟩, ⟨(some 18), none, (.bin .lss (.t 15) (.t 17))⟩]) 
  (.cond (.t 18) .skip (.exit 0))) (.seq (.block 1 (.seq (.drw 1 [⟨⟨(some 22), none, (.mv (.t 0))⟩, .pure, [], []⟩, ⟨⟨(some 23), none, (.mv (.t 6))⟩, .pure, [], []⟩, 
  ⟨⟨(some 24), none, (.ixa 4 (.t 22) (.t 23))⟩, .pure, [], []⟩, ⟨⟨(some 25), none, (.off 2 (.t 24))⟩, .pure, [], []⟩, ⟨⟨(some 26), none, (.ld (some 2) (.t 25))⟩, .ld, [], []⟩, 
  ⟨⟨(some 27), none, (.mv (.t 0))⟩, .pure, [4], []⟩, ⟨⟨(some 28), none, (.mv (.t 6))⟩, .pure, [4], []⟩, ⟨⟨(some 29), none, (.ixa 4 (.t 27) (.t 28))⟩, .pure, [4], []⟩, 
  ⟨⟨(some 30), none, (.off 0 (.t 29))⟩, .pure, [4], []⟩, ⟨⟨(some 31), none, (.ld (some 2) (.t 30))⟩, .ld, [], []⟩, 
  ⟨⟨(some 32), none, (.call f_r01_Sub [(.t 26), (.t 31)])⟩, .eff, [], [0]⟩, ⟨⟨(some 21), none, (.mv (.t 32))⟩, .pure, [], []⟩, ⟨⟨(some 33), none, (.ext 0 (.t 21))⟩, .pure, [], []⟩, 
  ⟨⟨(some 34), none, (.ext 1 (.t 21))⟩, .pure, [], []⟩, ⟨⟨(some 7), none, (.new [(.int .u64 0), (.int .u64 0)])⟩, (.new 0), [4, 9], []⟩, 
  ⟨⟨none, none, (.st (some 2) (.t 7) (.t 33))⟩, .eff, [], []⟩, ⟨⟨(some 8), none, (.mv (.t 34))⟩, .pure, [], []⟩]) (.seq (.seq (.reg [⟨(some 35), none, (.ld (some 2) (.t 3))⟩, 
  ⟨(some 36), none, (.ld (some 2) (.t 7))⟩, ⟨(some 37), none, (.call f_r03_le [(.t 35), (.t 36)])⟩]) (.cond (.t 37) (.seq (.drw 1 [⟨⟨(some 39), none, (.mv (.t 0))⟩, .pure, [], []⟩, 
  ⟨⟨(some 40), none, (.mv (.t 6))⟩, .pure, [], []⟩, ⟨⟨(some 41), none, (.ixa 4 (.t 39) (.t 40))⟩, .pure, [], []⟩, ⟨⟨(some 42), none, (.off 0 (.t 41))⟩, .pure, [], []⟩, 
  ⟨⟨(some 43), none, (.ld (some 2) (.t 42))⟩, .ld, [], []⟩, ⟨⟨(some 44), none, (.ld (some 2) (.t 3))⟩, .ld, [], []⟩, 
  ⟨⟨(some 45), none, (.call f_r01_Add [(.t 43), (.t 44)])⟩, .eff, [], [0]⟩, ⟨⟨(some 38), none, (.mv (.t 45))⟩, .pure, [], []⟩, ⟨⟨(some 46), none, (.ext 0 (.t 38))⟩, .pure, [], []⟩, 
  ⟨⟨(some 47), none, (.ext 1 (.t 38))⟩, .pure, [], []⟩, ⟨⟨(some 9), none, (.new [(.int .u64 0), (.int .u64 0)])⟩, (.new 0), [4, 5], []⟩, 
  ⟨⟨none, none, (.st (some 2) (.t 9) (.t 46))⟩, .eff, [], []⟩, ⟨⟨(some 10), none, (.mv (.t 47))⟩, .pure, [], []⟩]) (.seq (.reg [⟨(some 48), none, (.ld (some 2) (.t 9))⟩, 
  ⟨none, none, (.st (some 2) (.t 4) (.t 48))⟩, ⟨(some 5), none, (.mv (.k (.bool true)))⟩]) .ret)) .skip)) (.seq (.reg [⟨(some 50), none, (.ld (some 2) (.t 3))⟩, 
  ⟨(some 51), none, (.ld (some 2) (.t 7))⟩, ⟨(some 52), none, (.call f_r01_Sub [(.t 50), (.t 51)])⟩, ⟨(some 49), none, (.mv (.t 52))⟩, ⟨(some 53), none, (.ext 0 (.t 49))⟩, 
  ⟨(some 54), none, (.ext 1 (.t 49))⟩, ⟨none, none, (.st (some 2) (.t 3) (.t 53))⟩]) (.reg [⟨(some 56), none, (.ld (some 2) (.t 3))⟩, 
  ⟨(some 57), none, (.call f_r03_ahead [(.t 56)])⟩, ⟨(some 55), none, (.mv (.t 57))⟩, ⟨(some 58), none, (.ext 0 (.t 55))⟩, ⟨(some 59), none, (.ext 1 (.t 55))⟩, 
  ⟨none, none, (.st (some 2) (.t 3) (.t 58))⟩]))))) (.reg [⟨(some 19), none, (.mv (.t 6))⟩, ⟨(some 20), none, (.bin .add (.t 19) (.k (.int .i64 1)))⟩, 
  ⟨(some 6), none, (.mv (.t 20))⟩])))))) (.seq (.reg [⟨(some 60), none, (.bld [(.int .u64 0), (.int .u64 0)] [])⟩, ⟨none, none, (.st (some 2) (.t 4) (.t 60))⟩, 
  ⟨(some 5), none, (.mv (.k (.bool false)))⟩]) .ret))))⟩
theorem c_r03_Nth : compF Try.prog ⟨some 52, some 53⟩ Try.f23 = some r_r03_Nth := by kernel_rfl
/-- tenancy/span.Has -/
def r_span_Has : RF :=
  ⟨12, [(.tmp 4)], (.seq (.reg [⟨(some 3), none, (.box (some 2) (.t 1))⟩, ⟨(some 4), none, (.mv (.k (.bool false)))⟩]) (.seq (.reg [⟨(some 5), none, (.mv (.t 0))⟩, 
  ⟨(some 6), none, (.call f_span_Sound [(.t 5)])⟩, ⟨(some 7), none, (.mv (.t 6))⟩, ⟨(some 8), (some (7, true)), (.mv (.t 0))⟩, 
  ⟨(some 9), (some (7, true)), (.mkf f_span_Has_1 [(.t 3)])⟩, ⟨(some 10), (some (7, true)), (.call f_slices_ContainsFunc_Range [(.t 8), (.t 9)])⟩, 
  ⟨(some 11), none, (.pick (.t 7) (.t 10) (.k (.bool false)))⟩, ⟨(some 4), none, (.mv (.t 11))⟩]) .ret))⟩
theorem c_span_Has : compF Try.prog ⟨some 52, some 53⟩ Try.f24 = some r_span_Has := by kernel_rfl
/-- tenancy/tenancyref03.Has -/
def r_r03_Has : RF :=
  ⟨12, [(.tmp 4)], (.seq (.reg [⟨(some 3), none, (.box (some 2) (.t 1))⟩, ⟨(some 4), none, (.mv (.k (.bool false)))⟩]) (.seq (.reg [⟨(some 5), none, (.mv (.t 0))⟩, 
  ⟨(some 6), none, (.call f_r03_Sound [(.t 5)])⟩, ⟨(some 7), none, (.mv (.t 6))⟩, ⟨(some 8), (some (7, true)), (.mv (.t 0))⟩, ⟨(some 9), (some (7, true)), (.ld (some 2) (.t 3))⟩, 
  ⟨(some 10), (some (7, true)), (.call f_r03_in [(.t 8), (.t 9)])⟩, ⟨(some 11), none, (.pick (.t 7) (.t 10) (.k (.bool false)))⟩, ⟨(some 4), none, (.mv (.t 11))⟩]) .ret))⟩
theorem c_r03_Has : compF Try.prog ⟨some 52, some 53⟩ Try.f25 = some r_r03_Has := by kernel_rfl
/-- tenancy/span.Rank -/
def r_span_Rank : RF :=
  ⟨26, [(.cell (some 2) 4)], (.seq (.reg [⟨(some 3), none, (.box (some 2) (.t 1))⟩, ⟨(some 4), none, (.new [(.int .u64 0), (.int .u64 0)])⟩]) (.seq 
  (.reg [⟨(some 10), none, (.mv (.t 0))⟩, ⟨(some 11), none, (.ld (some 2) (.t 3))⟩, 
  ⟨(some 12), none, (.bld [(.int .u64 0), (.int .u64 0)] [(0, (1, (.k (.int .u64 18446744073709551615)))), (1, (1, (.k (.int .u64 18446744073709551615))))])⟩, 
  ⟨(some 13), none, (.bld [(.int .u64 0), (.int .u64 0), (.int .u64 0), (.int .u64 0)] [(0, (2, (.t 11))), (2, (2, (.t 12)))])⟩, 
  ⟨(some 14), none, (.call f_span_Drop [(.t 10), (.t 13)])⟩, ⟨(some 9), none, (.mv (.t 14))⟩, ⟨(some 15), none, (.ext 0 (.t 9))⟩, ⟨(some 16), none, (.ext 1 (.t 9))⟩, 
  ⟨(some 5), none, (.mv (.t 15))⟩, ⟨(some 6), none, (.mv (.t 16))⟩]) (.seq (.seq (.reg [⟨(some 17), none, (.mv (.t 6))⟩, 
  ⟨(some 18), none, (.eq true .i (.t 17) (.k (.int .i64 0)))⟩]) (.cond (.t 18) (.seq (.reg [⟨(some 19), none, (.bld [(.int .u64 0), (.int .u64 0)] [])⟩, 
  ⟨none, none, (.st (some 2) (.t 4) (.t 19))⟩]) .ret) .skip)) (.seq (.reg [⟨(some 21), none, (.mv (.t 5))⟩, ⟨(some 22), none, (.call f_span_Count [(.t 21)])⟩, 
  ⟨(some 20), none, (.mv (.t 22))⟩, ⟨(some 23), none, (.ext 0 (.t 20))⟩, ⟨(some 24), none, (.ext 1 (.t 20))⟩, ⟨(some 7), none, (.new [(.int .u64 0), (.int .u64 0)])⟩, 
  ⟨none, none, (.st (some 2) (.t 7) (.t 23))⟩, ⟨(some 8), none, (.mv (.t 24))⟩]) (.seq (.reg [⟨(some 25), none, (.ld (some 2) (.t 7))⟩, 
  ⟨none, none, (.st (some 2) (.t 4) (.t 25))⟩]) .ret)))))⟩
theorem c_span_Rank : compF Try.prog ⟨some 52, some 53⟩ Try.f26 = some r_span_Rank := by kernel_rfl
/-- tenancy/tenancyref03.Rank -/
def r_r03_Rank : RF :=
  ⟨49, [(.cell (some 2) 4)], (.seq (.reg [⟨(some 3), none, (.box (some 2) (.t 1))⟩, ⟨(some 4), none, (.new [(.int .u64 0), (.int .u64 0)])⟩]) (.seq 
  (.reg [⟨(some 10), none, (.bld [(.int .u64 0), (.int .u64 0)] [])⟩, ⟨(some 5), none, (.new [(.int .u64 0), (.int .u64 0)])⟩, ⟨none, none, (.st (some 2) (.t 5) (.t 10))⟩]) (.seq 
  (.seq (.reg [⟨(some 6), none, (.mv (.k (.int .i64 0)))⟩]) (.block 0 (.loop (.seq (.seq (.reg [⟨(some 11), none, (.mv (.t 0))⟩, ⟨(some 12), none, (.call f_r03_Sound [(.t 11)])⟩, 
  ⟨(some 13), none, (.mv (.t 12))⟩, ⟨(some 14), (some (13, true)), (.mv (.t 6))⟩, ⟨(some 15), (some (13, true)), (.mv (.t 0))⟩, ⟨(some 16), (some (13, true)), (.lenl (.t 15))⟩, 
  ⟨(some 17), (some (13, true)), (.bin .lss (.t 14) (.t 16))⟩, ⟨(some 18), none, (.pick (.t 13) (.t 17) (.k (.bool false)))⟩]) (.cond (.t 18) .skip (.exit 0))) (.seq (.block 1 (.seq 
  (.reg [⟨(some 21), none, (.mv (.t 0))⟩, ⟨(some 22), none, (.mv (.t 6))⟩, ⟨(some 23), none, (.ixa 4 (.t 21) (.t 22))⟩, ⟨(some 24), none, (.ld (some 4) (.t 23))⟩, 
  ⟨(some 7), none, (.new [(.int .u64 0), (.int .u64 0), (.int .u64 0), (.int .u64 0)])⟩, ⟨none, none, (.st (some 4) (.t 7) (.t 24))⟩]) (.seq (.seq 
  (.reg [⟨(some 25), none, (.ld (some 2) (.t 3))⟩, ⟨(some 26), none, (.off 0 (.t 7))⟩, ⟨(some 27), none, (.ld (some 2) (.t 26))⟩, 
  ⟨(some 28), none, (.call f_r03_le [(.t 25), (.t 27)])⟩]) (.cond (.t 28) (.seq (.reg [⟨(some 29), none, (.ld (some 2) (.t 5))⟩, 
  ⟨none, none, (.st (some 2) (.t 4) (.t 29))⟩]) .ret) .skip)) (.seq (.seq (.reg [⟨(some 30), none, (.ld (some 2) (.t 3))⟩, ⟨(some 31), none, (.off 2 (.t 7))⟩, 
  ⟨(some 32), none, (.ld (some 2) (.t 31))⟩, ⟨(some 33), none, (.call f_r03_le [(.t 30), (.t 32)])⟩]) (.cond (.t 33) (.seq (.reg [⟨(some 35), none, (.ld (some 2) (.t 3))⟩, 
  ⟨(some 36), none, (.call f_r03_ahead [(.t 35)])⟩, ⟨(some 34), none, (.mv (.t 36))⟩, ⟨(some 37), none, (.ext 0 (.t 34))⟩, ⟨(some 38), none, (.ext 1 (.t 34))⟩, 
  ⟨(some 8), none, (.new [(.int .u64 0), (.int .u64 0)])⟩, ⟨none, none, (.st (some 2) (.t 8) (.t 37))⟩, ⟨(some 9), none, (.mv (.t 38))⟩]) 
  (.reg [⟨(some 39), none, (.ld (some 2) (.t 8))⟩, ⟨(some 40), none, (.off 2 (.t 7))⟩, ⟨none, none, (.st (some 2) (.t 40) (.t 39))⟩])) .skip)) 
  (.drw 0 [⟨⟨(some 42), none, (.ld (some 2) (.t 5))⟩, .ld, [], []⟩, ⟨⟨(some 43), none, (.ld (some 4) (.t 7))⟩, .ld, [], []⟩, 
  ⟨⟨(some 44), none, (.call f_r03_size [(.t 43)])⟩, .eff, [0], []⟩, ⟨⟨(some 45), none, (.call f_r01_Add [(.t 42), (.t 44)])⟩, .eff, [], []⟩, 
  ⟨⟨(some 41), none, (.mv (.t 45))⟩, .pure, [], []⟩, ⟨⟨(some 46), none, (.ext 0 (.t 41))⟩, .pure, [], []⟩, ⟨⟨(some 47), none, (.ext 1 (.t 41))⟩, .pure, [], []⟩, 
  ⟨⟨none, none, (.st (some 2) (.t 5) (.t 46))⟩, .eff, [], []⟩]))))) (.reg [⟨(some 19), none, (.mv (.t 6))⟩, ⟨(some 20), none, (.bin .add (.t 19) (.k (.int .i64 1)))⟩, 
  ⟨(some 6), none, (.mv (.t 20))⟩])))))) (.seq (.reg [⟨(some 48), none, (.ld (some 2) (.t 5))⟩, ⟨none, none, (.st (some 2) (.t 4) (.t 48))⟩]) .ret))))⟩
theorem c_r03_Rank : compF Try.prog ⟨some 52, some 53⟩ Try.f27 = some r_r03_Rank := by kernel_rfl
/-- tenancy/tenancylaw03.built -/
def r_w03_built : RF :=
  ⟨30, [(.tmp 2)], (.seq (.reg [⟨(some 2), none, (.mv (.k .nils))⟩]) (.seq (.reg [⟨(some 3), none, (.mv (.k .nils))⟩]) (.seq (.seq 
  (.reg [⟨(some 4), none, (.mv (.k (.int .i64 0)))⟩]) (.block 0 (.loop (.seq (.seq (.reg [⟨(some 7), none, (.mv (.t 4))⟩, ⟨(some 8), none, (.mv (.t 0))⟩, 
  ⟨(some 9), none, (.lenl (.t 8))⟩, ⟨(some 10), none, (.bin .lss (.t 7) (.t 9))⟩, ⟨(some 11), none, (.mv (.t 10))⟩, ⟨(some 12), (some (11, true)), (.mv (.t 4))⟩, 
  ⟨(some 13), (some (11, true)), (.bin .lss (.t 12) (.k (.int .i64 200)))⟩, ⟨(some 14), none, (.pick (.t 11) (.t 13) (.k (.bool false)))⟩]) (.cond (.t 14) .skip (.exit 0))) (.seq 
  (.block 1 (.seq (.reg [⟨(some 18), none, (.mv (.t 3))⟩, ⟨(some 19), none, (.mv (.t 0))⟩, ⟨(some 20), none, (.mv (.t 4))⟩, ⟨(some 21), none, (.ixa 4 (.t 19) (.t 20))⟩, 
  ⟨(some 22), none, (.ld (some 4) (.t 21))⟩, ⟨(some 23), none, (.call f_span_Put [(.t 18), (.t 22)])⟩, ⟨(some 17), none, (.mv (.t 23))⟩, ⟨(some 24), none, (.ext 0 (.t 17))⟩, 
  ⟨(some 25), none, (.ext 1 (.t 17))⟩, ⟨(some 5), none, (.mv (.t 24))⟩, ⟨(some 6), none, (.mv (.t 25))⟩]) (.seq (.reg [⟨(some 26), none, (.mv (.t 6))⟩, 
  ⟨(some 27), none, (.eq false .i (.t 26) (.k (.int .i64 0)))⟩]) (.cond (.t 27) (.reg [⟨(some 28), none, (.mv (.t 5))⟩, ⟨(some 3), none, (.mv (.t 28))⟩]) .skip)))) 
  (.reg [⟨(some 15), none, (.mv (.t 4))⟩, ⟨(some 16), none, (.bin .add (.t 15) (.k (.int .i64 1)))⟩, ⟨(some 4), none, (.mv (.t 16))⟩])))))) (.seq 
  (.reg [⟨(some 29), none, (.mv (.t 3))⟩, ⟨(some 2), none, (.mv (.t 29))⟩]) .ret))))⟩
theorem c_w03_built : compF Try.prog ⟨some 52, some 53⟩ Try.f28 = some r_w03_built := by kernel_rfl
/-- tenancy/addr.Cmp -/
def r_addr_Cmp : RF :=
  ⟨17, [(.tmp 4)], (.seq (.reg [⟨(some 2), none, (.box (some 2) (.t 0))⟩, ⟨(some 3), none, (.box (some 2) (.t 1))⟩, ⟨(some 4), none, (.mv (.k (.int .i64 0)))⟩]) (.seq 
  (.drw 1 [⟨⟨(some 5), none, (.off 0 (.t 2))⟩, .pure, [], []⟩, ⟨⟨(some 6), none, (.ld none (.t 5))⟩, .ld, [], []⟩, ⟨⟨(some 7), none, (.off 0 (.t 3))⟩, .pure, [1], []⟩, 
  ⟨⟨(some 8), none, (.ld none (.t 7))⟩, .ld, [], []⟩, ⟨⟨(some 9), none, (.call f_cmp_Compare_uint64 [(.t 6), (.t 8)])⟩, .eff, [], [0]⟩, 
  ⟨⟨(some 10), none, (.off 1 (.t 2))⟩, .pure, [1, 3], []⟩, ⟨⟨(some 11), none, (.ld none (.t 10))⟩, .ld, [4], []⟩, ⟨⟨(some 12), none, (.off 1 (.t 3))⟩, .pure, [1, 3, 6], []⟩, 
  ⟨⟨(some 13), none, (.ld none (.t 12))⟩, .ld, [4], []⟩, ⟨⟨(some 14), none, (.call f_cmp_Compare_uint64 [(.t 11), (.t 13)])⟩, .eff, [], [0]⟩, 
  ⟨⟨(some 15), none, (.bsl 1 2 [(.int .i64 0)] [(0, (1, (.t 9))), (1, (1, (.t 14)))])⟩, (.new 0), [], []⟩, ⟨⟨(some 16), none, (.call f_cmp_Or_int [(.t 15)])⟩, .eff, [], []⟩, 
  ⟨⟨(some 4), none, (.mv (.t 16))⟩, .pure, [], []⟩]) .ret))⟩
theorem c_addr_Cmp : compF Try.prog ⟨some 52, some 53⟩ Try.f29 = some r_addr_Cmp := by kernel_rfl
/-- tenancy/addr.Add -/
def r_addr_Add : RF :=
  ⟨31, [(.cell (some 2) 4), (.tmp 5)], (.seq (.reg [⟨(some 2), none, (.box (some 2) (.t 0))⟩, ⟨(some 3), none, (.box (some 2) (.t 1))⟩, 
  ⟨(some 4), none, (.new [(.int .u64 0), (.int .u64 0)])⟩, ⟨(some 5), none, (.mv (.k (.bool false)))⟩]) (.seq (.reg [⟨(some 10), none, (.off 1 (.t 2))⟩, 
  ⟨(some 11), none, (.ld none (.t 10))⟩, ⟨(some 12), none, (.off 1 (.t 3))⟩, ⟨(some 13), none, (.ld none (.t 12))⟩, ⟨(some 14), none, (.add64 (.t 11) (.t 13) (.k (.int .u64 0)))⟩, 
  ⟨(some 9), none, (.mv (.t 14))⟩, ⟨(some 15), none, (.ext 0 (.t 9))⟩, ⟨(some 16), none, (.ext 1 (.t 9))⟩, ⟨(some 6), none, (.mv (.t 15))⟩, ⟨(some 7), none, (.mv (.t 16))⟩]) (.seq 
  (.reg [⟨(some 18), none, (.off 0 (.t 2))⟩, ⟨(some 19), none, (.ld none (.t 18))⟩, ⟨(some 20), none, (.off 0 (.t 3))⟩, ⟨(some 21), none, (.ld none (.t 20))⟩, 
  ⟨(some 22), none, (.mv (.t 7))⟩, ⟨(some 23), none, (.add64 (.t 19) (.t 21) (.t 22))⟩, ⟨(some 17), none, (.mv (.t 23))⟩, ⟨(some 24), none, (.ext 0 (.t 17))⟩, 
  ⟨(some 25), none, (.ext 1 (.t 17))⟩, ⟨(some 8), none, (.mv (.t 24))⟩, ⟨(some 7), none, (.mv (.t 25))⟩]) (.seq (.reg [⟨(some 26), none, (.mv (.t 8))⟩, 
  ⟨(some 27), none, (.mv (.t 6))⟩, ⟨(some 28), none, (.bld [(.int .u64 0), (.int .u64 0)] [(0, (1, (.t 26))), (1, (1, (.t 27)))])⟩, ⟨(some 29), none, (.mv (.t 7))⟩, 
  ⟨(some 30), none, (.eq true .i (.t 29) (.k (.int .u64 0)))⟩, ⟨none, none, (.st (some 2) (.t 4) (.t 28))⟩, ⟨(some 5), none, (.mv (.t 30))⟩]) .ret))))⟩
theorem c_addr_Add : compF Try.prog ⟨some 52, some 53⟩ Try.f30 = some r_addr_Add := by kernel_rfl
/-- tenancy/addr.Sub -/
def r_addr_Sub : RF :=
  ⟨31, [(.cell (some 2) 4), (.tmp 5)], (.seq (.reg [⟨(some 2), none, (.box (some 2) (.t 0))⟩, ⟨(some 3), none, (.box (some 2) (.t 1))⟩, 
  ⟨(some 4), none, (.new [(.int .u64 0), (.int .u64 0)])⟩, ⟨(some 5), none, (.mv (.k (.bool false)))⟩]) (.seq (.reg [⟨(some 10), none, (.off 1 (.t 2))⟩, 
  ⟨(some 11), none, (.ld none (.t 10))⟩, ⟨(some 12), none, (.off 1 (.t 3))⟩, ⟨(some 13), none, (.ld none (.t 12))⟩, ⟨(some 14), none, (.sub64 (.t 11) (.t 13) (.k (.int .u64 0)))⟩, 
  ⟨(some 9), none, (.mv (.t 14))⟩, ⟨(some 15), none, (.ext 0 (.t 9))⟩, ⟨(some 16), none, (.ext 1 (.t 9))⟩, ⟨(some 6), none, (.mv (.t 15))⟩, ⟨(some 7), none, (.mv (.t 16))⟩]) (.seq 
  (.reg [⟨(some 18), none, (.off 0 (.t 2))⟩, ⟨(some 19), none, (.ld none (.t 18))⟩, ⟨(some 20), none, (.off 0 (.t 3))⟩, ⟨(some 21), none, (.ld none (.t 20))⟩, 
  ⟨(some 22), none, (.mv (.t 7))⟩, ⟨(some 23), none, (.sub64 (.t 19) (.t 21) (.t 22))⟩, ⟨(some 17), none, (.mv (.t 23))⟩, ⟨(some 24), none, (.ext 0 (.t 17))⟩, 
  ⟨(some 25), none, (.ext 1 (.t 17))⟩, ⟨(some 8), none, (.mv (.t 24))⟩, ⟨(some 7), none, (.mv (.t 25))⟩]) (.seq (.reg [⟨(some 26), none, (.mv (.t 8))⟩, 
  ⟨(some 27), none, (.mv (.t 6))⟩, ⟨(some 28), none, (.bld [(.int .u64 0), (.int .u64 0)] [(0, (1, (.t 26))), (1, (1, (.t 27)))])⟩, ⟨(some 29), none, (.mv (.t 7))⟩, 
  ⟨(some 30), none, (.eq true .i (.t 29) (.k (.int .u64 0)))⟩, ⟨none, none, (.st (some 2) (.t 4) (.t 28))⟩, ⟨(some 5), none, (.mv (.t 30))⟩]) .ret))))⟩
theorem c_addr_Sub : compF Try.prog ⟨some 52, some 53⟩ Try.f31 = some r_addr_Sub := by kernel_rfl
/-- tenancy/tenancylaw03.in -/
def r_w03_in : RF :=
  ⟨17, [(.tmp 4)], (.seq (.reg [⟨(some 2), none, (.box (some 4) (.t 0))⟩, ⟨(some 3), none, (.box (some 2) (.t 1))⟩, ⟨(some 4), none, (.mv (.k (.bool false)))⟩]) (.seq 
  (.reg [⟨(some 5), none, (.off 0 (.t 2))⟩, ⟨(some 6), none, (.ld (some 2) (.t 5))⟩, ⟨(some 7), none, (.ld (some 2) (.t 3))⟩, ⟨(some 8), none, (.call f_addr_Cmp [(.t 6), (.t 7)])⟩, 
  ⟨(some 9), none, (.bin .leq (.t 8) (.k (.int .i64 0)))⟩, ⟨(some 10), none, (.mv (.t 9))⟩, ⟨(some 11), (some (10, true)), (.ld (some 2) (.t 3))⟩, 
  ⟨(some 12), (some (10, true)), (.off 2 (.t 2))⟩, ⟨(some 13), (some (10, true)), (.ld (some 2) (.t 12))⟩, ⟨(some 14), (some (10, true)), (.call f_addr_Cmp [(.t 11), (.t 13)])⟩, 
  ⟨(some 15), (some (10, true)), (.bin .leq (.t 14) (.k (.int .i64 0)))⟩, ⟨(some 16), none, (.pick (.t 10) (.t 15) (.k (.bool false)))⟩, ⟨(some 4), none, (.mv (.t 16))⟩]) .ret))⟩
theorem c_w03_in : compF Try.prog ⟨some 52, some 53⟩ Try.f32 = some r_w03_in := by kernel_rfl
/-- tenancy/tenancylaw03.small -/
def r_w03_small : RF :=
  ⟨10, [(.cell (some 4) 4)], (.seq (.reg [⟨(some 4), none, (.new [(.int .u64 0), (.int .u64 0), (.int .u64 0), (.int .u64 0)])⟩]) (.seq (.reg [⟨(some 5), none, (.mv (.t 0))⟩, 
  ⟨(some 6), none, (.bld [(.int .u64 0), (.int .u64 0)] [(1, (1, (.t 5)))])⟩, ⟨(some 7), none, (.mv (.t 1))⟩, 
  ⟨(some 8), none, (.bld [(.int .u64 0), (.int .u64 0)] [(1, (1, (.t 7)))])⟩, 
  ⟨(some 9), none, (.bld [(.int .u64 0), (.int .u64 0), (.int .u64 0), (.int .u64 0)] [(0, (2, (.t 6))), (2, (2, (.t 8)))])⟩, ⟨none, none, (.st (some 4) (.t 4) (.t 9))⟩]) .ret))⟩
theorem c_w03_small : compF Try.prog ⟨some 52, some 53⟩ Try.f33 = some r_w03_small := by kernel_rfl
/-- tenancy/span.isRange -/
def r_span_isRange : RF :=
  ⟨9, [(.tmp 2)], (.seq (.reg [⟨(some 1), none, (.box (some 4) (.t 0))⟩, ⟨(some 2), none, (.mv (.k (.bool false)))⟩]) (.seq (.reg [⟨(some 3), none, (.off 2 (.t 1))⟩, 
  ⟨(some 4), none, (.ld (some 2) (.t 3))⟩, ⟨(some 5), none, (.off 0 (.t 1))⟩, ⟨(some 6), none, (.ld (some 2) (.t 5))⟩, ⟨(some 7), none, (.call f_span_below [(.t 4), (.t 6)])⟩, 
  ⟨(some 8), none, (.un .not (.t 7))⟩, ⟨(some 2), none, (.mv (.t 8))⟩]) .ret))⟩
theorem c_span_isRange : compF Try.prog ⟨some 52, some 53⟩ Try.f34 = some r_span_isRange := by kernel_rfl
/-- tenancy/span.apart -/
def r_span_apart : RF :=
  ⟨22, [(.tmp 4)], (.seq (.reg [⟨(some 2), none, (.box (some 4) (.t 0))⟩, ⟨(some 3), none, (.box (some 4) (.t 1))⟩, ⟨(some 4), none, (.mv (.k (.bool false)))⟩]) (.seq 
  (.drw 1 [⟨⟨(some 8), none, (.off 2 (.t 2))⟩, .pure, [], []⟩, ⟨⟨(some 9), none, (.ld (some 2) (.t 8))⟩, .ld, [], []⟩, ⟨⟨(some 10), none, (.call f_span_one [])⟩, .eff, [1], [0]⟩, 
  ⟨⟨(some 11), none, (.call f_addr_Add [(.t 9), (.t 10)])⟩, .eff, [], [0]⟩, ⟨⟨(some 7), none, (.mv (.t 11))⟩, .pure, [], []⟩, ⟨⟨(some 12), none, (.ext 0 (.t 7))⟩, .pure, [], []⟩, 
  ⟨⟨(some 13), none, (.ext 1 (.t 7))⟩, .pure, [], []⟩, ⟨⟨(some 5), none, (.new [(.int .u64 0), (.int .u64 0)])⟩, (.new 0), [1], []⟩, 
  ⟨⟨none, none, (.st (some 2) (.t 5) (.t 12))⟩, .eff, [], []⟩, ⟨⟨(some 6), none, (.mv (.t 13))⟩, .pure, [], []⟩]) (.seq (.reg [⟨(some 14), none, (.mv (.t 6))⟩, 
  ⟨(some 15), none, (.un .not (.t 14))⟩, ⟨(some 16), none, (.mv (.t 15))⟩, ⟨(some 17), (some (16, true)), (.ld (some 2) (.t 5))⟩, ⟨(some 18), (some (16, true)), (.off 0 (.t 3))⟩, 
  ⟨(some 19), (some (16, true)), (.ld (some 2) (.t 18))⟩, ⟨(some 20), (some (16, true)), (.call f_span_below [(.t 17), (.t 19)])⟩, 
  ⟨(some 21), none, (.pick (.t 16) (.t 20) (.k (.bool false)))⟩, ⟨(some 4), none, (.mv (.t 21))⟩]) .ret)))⟩
theorem c_span_apart : compF Try.prog ⟨some 52, some 53⟩ Try.f35 = some r_span_apart := by kernel_rfl
/-- tenancy/span.below -/
def r_span_below : RF :=
  ⟨9, [(.tmp 4)], (.seq (.reg [⟨(some 2), none, (.box (some 2) (.t 0))⟩, ⟨(some 3), none, (.box (some 2) (.t 1))⟩, ⟨(some 4), none, (.mv (.k (.bool false)))⟩]) (.seq 
  (.reg [⟨(some 5), none, (.ld (some 2) (.t 2))⟩, ⟨(some 6), none, (.ld (some 2) (.t 3))⟩, ⟨(some 7), none, (.call f_addr_Cmp [(.t 5), (.t 6)])⟩, 
  ⟨(some 8), none, (.bin .lss (.t 7) (.k (.int .i64 0)))⟩, ⟨(some 4), none, (.mv (.t 8))⟩]) .ret))⟩
theorem c_span_below : compF Try.prog ⟨some 52, some 53⟩ Try.f36 = some r_span_below := by kernel_rfl
/-- slices.Concat[[]tenancy/api.Range,tenancy/api.Range] -/
def r_slices_Concat_Range : RF :=
  ⟨36, [(.tmp 2)], (.seq (.reg [⟨(some 2), none, (.mv (.k .nils))⟩]) (.seq (.reg [⟨(some 3), none, (.mv (.k (.int .i64 0)))⟩]) (.seq (.seq (.reg [⟨(some 9), none, (.mv (.t 0))⟩, 
  ⟨(some 10), none, (.lenl (.t 9))⟩, ⟨(some 11), none, (.mv (.k (.int .i64 0)))⟩]) (.block 0 (.loop (.seq (.reg [⟨(some 12), none, (.bin .lss (.t 11) (.t 10))⟩]) (.seq 
  (.cond (.t 12) .skip (.exit 0)) (.seq (.block 1 (.seq (.reg [⟨(some 13), none, (.ixa 1 (.t 9) (.t 11))⟩, ⟨(some 14), none, (.ld none (.t 13))⟩, ⟨(some 5), none, (.mv (.t 14))⟩]) 
  (.seq (.reg [⟨(some 15), none, (.mv (.t 3))⟩, ⟨(some 16), none, (.mv (.t 5))⟩, ⟨(some 17), none, (.lenl (.t 16))⟩, ⟨(some 18), none, (.bin .add (.t 15) (.t 17))⟩, 
  ⟨(some 3), none, (.mv (.t 18))⟩]) (.seq (.reg [⟨(some 19), none, (.mv (.t 3))⟩, ⟨(some 20), none, (.bin .lss (.t 19) (.k (.int .i64 0)))⟩]) (.cond (.t 20) 
  (.reg [⟨(some 21), none, (.mki 9 (.k (.str (bts [108, 101, 110, 32, 111, 117, 116, 32, 111, 102, 32, 114, 97, 110, 103, 101]))))⟩, ⟨none, none, .fail⟩]) .skip))))) 
  (.reg [⟨(some 22), none, (.bin .add (.t 11) (.k (.int .i64 1)))⟩, ⟨(some 11), none, (.mv (.t 22))⟩]))))))) (.seq (.reg [⟨(some 23), none, (.mv (.t 3))⟩, 
  ⟨(some 24), none, (.call f_slices_Grow_Range [(.k .nils), (.t 23)])⟩, ⟨(some 6), none, (.mv (.t 24))⟩]) (.seq (.seq (.reg [⟨(some 25), none, (.mv (.t 0))⟩, 
  ⟨(some 26), none, (.lenl (.t 25))⟩, ⟨(some 27), none, (.mv (.k (.int .i64 0)))⟩]) (.block 2 (.loop (.seq (.reg [⟨(some 28), none, (.bin .lss (.t 27) (.t 26))⟩]) (.seq 
  (.cond (.t 28) .skip (.exit 2)) (.seq (.block 3 (.seq (.reg [⟨(some 29), none, (.ixa 1 (.t 25) (.t 27))⟩, ⟨(some 30), none, (.ld none (.t 29))⟩, ⟨(some 8), none, (.mv (.t 30))⟩]) 
  (.reg [⟨(some 31), none, (.mv (.t 6))⟩, ⟨(some 32), none, (.mv (.t 8))⟩, ⟨(some 33), none, (.app 4 32 (.t 31) (.t 32))⟩, ⟨(some 6), none, (.mv (.t 33))⟩]))) 
  (.reg [⟨(some 34), none, (.bin .add (.t 27) (.k (.int .i64 1)))⟩, ⟨(some 27), none, (.mv (.t 34))⟩]))))))) (.seq (.reg [⟨(some 35), none, (.mv (.t 6))⟩, 
  ⟨(some 2), none, (.mv (.t 35))⟩]) .ret))))))⟩
theorem c_slices_Concat_Range : compF Try.prog ⟨some 52, some 53⟩ Try.f37 = some r_slices_Concat_Range := by kernel_rfl
/-- tenancy/tenancyref03.le -/
def r_r03_le : RF :=
  ⟨9, [(.tmp 4)], (.seq (.reg [⟨(some 2), none, (.box (some 2) (.t 0))⟩, ⟨(some 3), none, (.box (some 2) (.t 1))⟩, ⟨(some 4), none, (.mv (.k (.bool false)))⟩]) (.seq 
  (.reg [⟨(some 5), none, (.ld (some 2) (.t 2))⟩, ⟨(some 6), none, (.ld (some 2) (.t 3))⟩, ⟨(some 7), none, (.call f_r01_Cmp [(.t 5), (.t 6)])⟩, 
  ⟨(some 8), none, (.bin .leq (.t 7) (.k (.int .i64 0)))⟩, ⟨(some 4), none, (.mv (.t 8))⟩]) .ret))⟩
theorem c_r03_le : compF Try.prog ⟨some 52, some 53⟩ Try.f38 = some r_r03_le := by kernel_rfl
/-- tenancy/tenancyref03.made -/
def r_r03_made : RF :=
  ⟨97, [(.tmp 4)], (.seq (.reg [⟨(some 4), none, (.mv (.k .nils))⟩]) (.seq (.reg [⟨(some 13), none, (.bsl 4 0 [(.int .u64 0), (.int .u64 0), (.int .u64 0), (.int .u64 0)] [])⟩, 
  ⟨(some 5), none, (.mv (.t 13))⟩]) (.seq (.reg [⟨(some 14), none, (.mv (.t 5))⟩, ⟨(some 15), none, (.mv (.t 0))⟩, ⟨(some 16), none, (.app 4 32 (.t 14) (.t 15))⟩, 
  ⟨(some 5), none, (.mv (.t 16))⟩]) (.seq (.reg [⟨(some 17), none, (.mv (.t 5))⟩, ⟨(some 18), none, (.mv (.t 1))⟩, ⟨(some 19), none, (.app 4 32 (.t 17) (.t 18))⟩, 
  ⟨(some 5), none, (.mv (.t 19))⟩]) (.seq (.reg [⟨(some 20), none, (.mv (.t 5))⟩, ⟨(some 21), none, (.call f_r03_edges [(.t 20)])⟩, ⟨(some 6), none, (.mv (.t 21))⟩]) (.seq 
  (.reg [⟨(some 22), none, (.bsl 4 0 [(.int .u64 0), (.int .u64 0), (.int .u64 0), (.int .u64 0)] [])⟩, ⟨(some 7), none, (.mv (.t 22))⟩]) (.seq (.seq 
  (.reg [⟨(some 8), none, (.mv (.k (.int .i64 0)))⟩]) (.block 0 (.loop (.seq (.seq (.reg [⟨(some 23), none, (.mv (.t 8))⟩, ⟨(some 24), none, (.mv (.t 6))⟩, 
  ⟨(some 25), none, (.lenl (.t 24))⟩, ⟨(some 26), none, (.bin .lss (.t 23) (.t 25))⟩]) (.cond (.t 26) .skip (.exit 0))) (.seq (.block 1 (.seq (.seq 
  (.reg [⟨(some 29), none, (.mv (.t 0))⟩, ⟨(some 30), none, (.mv (.t 6))⟩, ⟨(some 31), none, (.mv (.t 8))⟩, ⟨(some 32), none, (.ixa 2 (.t 30) (.t 31))⟩, 
  ⟨(some 33), none, (.ld (some 2) (.t 32))⟩, ⟨(some 34), none, (.call f_r03_in [(.t 29), (.t 33)])⟩, ⟨(some 35), none, (.un .not (.t 34))⟩, ⟨(some 36), none, (.mv (.t 35))⟩, 
  ⟨(some 37), (some (36, false)), (.mv (.t 1))⟩, ⟨(some 38), (some (36, false)), (.mv (.t 6))⟩, ⟨(some 39), (some (36, false)), (.mv (.t 8))⟩, 
  ⟨(some 40), (some (36, false)), (.ixa 2 (.t 38) (.t 39))⟩, ⟨(some 41), (some (36, false)), (.ld (some 2) (.t 40))⟩, 
  ⟨(some 42), (some (36, false)), (.call f_r03_in [(.t 37), (.t 41)])⟩, ⟨(some 43), none, (.pick (.t 36) (.k (.bool true)) (.t 42))⟩]) (.cond (.t 43) (.exit 1) .skip)) (.seq 
  (.reg [⟨(some 44), none, (.bld [(.int .u64 0), (.int .u64 0)] [(0, (1, (.k (.int .u64 18446744073709551615)))), (1, (1, (.k (.int .u64 18446744073709551615))))])⟩, 
  ⟨(some 9), none, (.new [(.int .u64 0), (.int .u64 0)])⟩, ⟨none, none, (.st (some 2) (.t 9) (.t 44))⟩]) (.seq (.seq (.reg [⟨(some 45), none, (.mv (.t 8))⟩, 
  ⟨(some 46), none, (.bin .add (.t 45) (.k (.int .i64 1)))⟩, ⟨(some 47), none, (.mv (.t 6))⟩, ⟨(some 48), none, (.lenl (.t 47))⟩, ⟨(some 49), none, (.bin .lss (.t 46) (.t 48))⟩]) 
  (.cond (.t 49) (.reg [⟨(some 51), none, (.mv (.t 6))⟩, ⟨(some 52), none, (.mv (.t 8))⟩, ⟨(some 53), none, (.bin .add (.t 52) (.k (.int .i64 1)))⟩, 
  ⟨(some 54), none, (.ixa 2 (.t 51) (.t 53))⟩, ⟨(some 55), none, (.ld (some 2) (.t 54))⟩, ⟨(some 56), none, (.call f_r03_ahead [(.t 55)])⟩, ⟨(some 50), none, (.mv (.t 56))⟩, 
  ⟨(some 57), none, (.ext 0 (.t 50))⟩, ⟨(some 58), none, (.ext 1 (.t 50))⟩, ⟨none, none, (.st (some 2) (.t 9) (.t 57))⟩]) .skip)) (.seq (.reg [⟨(some 59), none, (.mv (.t 7))⟩, 
  ⟨(some 60), none, (.lenl (.t 59))⟩, ⟨(some 61), none, (.bin .sub (.t 60) (.k (.int .i64 1)))⟩, ⟨(some 10), none, (.mv (.t 61))⟩]) (.seq (.seq 
  (.reg [⟨(some 62), none, (.mv (.t 10))⟩, ⟨(some 63), none, (.bin .geq (.t 62) (.k (.int .i64 0)))⟩]) (.cond (.t 63) (.seq (.reg [⟨(some 65), none, (.mv (.t 7))⟩, 
  ⟨(some 66), none, (.mv (.t 10))⟩, ⟨(some 67), none, (.ixa 4 (.t 65) (.t 66))⟩, ⟨(some 68), none, (.off 2 (.t 67))⟩, ⟨(some 69), none, (.ld (some 2) (.t 68))⟩, 
  ⟨(some 70), none, (.call f_r03_next [(.t 69)])⟩, ⟨(some 64), none, (.mv (.t 70))⟩, ⟨(some 71), none, (.ext 0 (.t 64))⟩, ⟨(some 72), none, (.ext 1 (.t 64))⟩, 
  ⟨(some 11), none, (.new [(.int .u64 0), (.int .u64 0)])⟩, ⟨none, none, (.st (some 2) (.t 11) (.t 71))⟩, ⟨(some 12), none, (.mv (.t 72))⟩]) (.seq 
  (.drw 0 [⟨⟨(some 73), none, (.mv (.t 12))⟩, .pure, [], []⟩, ⟨⟨(some 74), none, (.mv (.t 73))⟩, .pure, [], []⟩, 
  ⟨⟨(some 75), (some (74, true)), (.ld (some 2) (.t 11))⟩, .ld, [], []⟩, ⟨⟨(some 76), (some (74, true)), (.mv (.t 6))⟩, .pure, [2], []⟩, 
  ⟨⟨(some 77), (some (74, true)), (.mv (.t 8))⟩, .pure, [2], []⟩, ⟨⟨(some 78), (some (74, true)), (.ixa 2 (.t 76) (.t 77))⟩, .pure, [2], []⟩, 
  ⟨⟨(some 79), (some (74, true)), (.ld (some 2) (.t 78))⟩, .ld, [], []⟩, 
  ⟨⟨(some 80), (some (74, true)), (.eq false (.st (.one 0 .i (.one 1 .i .nil))) (.t 75) (.t 79))⟩, .pure, [], []⟩, 
  ⟨⟨(some 81), none, (.pick (.t 74) (.t 80) (.k (.bool false)))⟩, .pure, [], []⟩]) (.cond (.t 81) (.seq (.reg [⟨(some 82), none, (.mv (.t 7))⟩, ⟨(some 83), none, (.mv (.t 10))⟩, 
  ⟨(some 84), none, (.ld (some 2) (.t 9))⟩, ⟨(some 85), none, (.ixa 4 (.t 82) (.t 83))⟩, ⟨(some 86), none, (.off 2 (.t 85))⟩, 
  ⟨none, none, (.st (some 2) (.t 86) (.t 84))⟩]) (.exit 1)) .skip))) .skip)) (.drw 1 [⟨⟨(some 87), none, (.mv (.t 7))⟩, .pure, [], []⟩, 
  ⟨⟨(some 88), none, (.mv (.t 6))⟩, .pure, [], []⟩, ⟨⟨(some 89), none, (.mv (.t 8))⟩, .pure, [], []⟩, ⟨⟨(some 90), none, (.ixa 2 (.t 88) (.t 89))⟩, .pure, [], []⟩, 
  ⟨⟨(some 91), none, (.ld (some 2) (.t 90))⟩, .ld, [], []⟩, ⟨⟨(some 92), none, (.ld (some 2) (.t 9))⟩, .ld, [], []⟩, 
  ⟨⟨(some 93), none, (.bld [(.int .u64 0), (.int .u64 0), (.int .u64 0), (.int .u64 0)] [(0, (2, (.t 91))), (2, (2, (.t 92)))])⟩, .pure, [], []⟩, 
  ⟨⟨(some 94), none, (.bsl 4 1 [(.int .u64 0), (.int .u64 0), (.int .u64 0), (.int .u64 0)] [(0, (4, (.t 93)))])⟩, (.new 0), [], []⟩, 
  ⟨⟨(some 95), none, (.app 4 32 (.t 87) (.t 94))⟩, .eff, [], []⟩, ⟨⟨(some 7), none, (.mv (.t 95))⟩, .pure, [], []⟩]))))))) (.reg [⟨(some 27), none, (.mv (.t 8))⟩, 
  ⟨(some 28), none, (.bin .add (.t 27) (.k (.int .i64 1)))⟩, ⟨(some 8), none, (.mv (.t 28))⟩])))))) (.seq (.reg [⟨(some 96), none, (.mv (.t 7))⟩, 
  ⟨(some 4), none, (.mv (.t 96))⟩]) .ret))))))))⟩
theorem c_r03_made : compF Try.prog ⟨some 52, some 53⟩ Try.f39 = some r_r03_made := by kernel_rfl
/-- tenancy/tenancyref03.next -/
def r_r03_next : RF :=
  ⟨15, [(.cell (some 2) 2), (.tmp 3)], (.seq (.reg [⟨(some 1), none, (.box (some 2) (.t 0))⟩, ⟨(some 2), none, (.new [(.int .u64 0), (.int .u64 0)])⟩, 
  ⟨(some 3), none, (.mv (.k (.bool false)))⟩]) (.seq (.reg [⟨(some 7), none, (.ld (some 2) (.t 1))⟩, 
  ⟨(some 8), none, (.bld [(.int .u64 0), (.int .u64 0)] [(1, (1, (.k (.int .u64 1))))])⟩, ⟨(some 9), none, (.call f_r01_Add [(.t 7), (.t 8)])⟩, ⟨(some 6), none, (.mv (.t 9))⟩, 
  ⟨(some 10), none, (.ext 0 (.t 6))⟩, ⟨(some 11), none, (.ext 1 (.t 6))⟩, ⟨(some 4), none, (.new [(.int .u64 0), (.int .u64 0)])⟩, ⟨none, none, (.st (some 2) (.t 4) (.t 10))⟩, 
  ⟨(some 5), none, (.mv (.t 11))⟩]) (.seq (.reg [⟨(some 12), none, (.ld (some 2) (.t 4))⟩, ⟨(some 13), none, (.mv (.t 5))⟩, ⟨(some 14), none, (.un .not (.t 13))⟩, 
  ⟨none, none, (.st (some 2) (.t 2) (.t 12))⟩, ⟨(some 3), none, (.mv (.t 14))⟩]) .ret)))⟩
theorem c_r03_next : compF Try.prog ⟨some 52, some 53⟩ Try.f40 = some r_r03_next := by kernel_rfl
/-- tenancy/span.one -/
def r_span_one : RF :=
  ⟨2, [(.cell (some 2) 0)], (.seq (.reg [⟨(some 0), none, (.new [(.int .u64 0), (.int .u64 0)])⟩]) (.seq 
  (.reg [⟨(some 1), none, (.bld [(.int .u64 0), (.int .u64 0)] [(1, (1, (.k (.int .u64 1))))])⟩, ⟨none, none, (.st (some 2) (.t 0) (.t 1))⟩]) .ret))⟩
theorem c_span_one : compF Try.prog ⟨some 52, some 53⟩ Try.f41 = some r_span_one := by kernel_rfl
/-- slices.Clone[[]tenancy/api.Range,tenancy/api.Range] -/
def r_slices_Clone_Range : RF :=
  ⟨8, [(.tmp 2)], (.seq (.reg [⟨(some 2), none, (.mv (.k .nils))⟩]) (.seq (.seq (.reg [⟨(some 3), none, (.mv (.t 0))⟩, ⟨(some 4), none, (.eq false .l (.t 3) (.k .nils))⟩]) 
  (.cond (.t 4) (.seq (.reg [⟨(some 2), none, (.mv (.k .nils))⟩]) .ret) .skip)) (.seq 
  (.reg [⟨(some 5), none, (.bsl 4 0 [(.int .u64 0), (.int .u64 0), (.int .u64 0), (.int .u64 0)] [])⟩, ⟨(some 6), none, (.mv (.t 0))⟩, ⟨(some 7), none, (.app 4 32 (.t 5) (.t 6))⟩, 
  ⟨(some 2), none, (.mv (.t 7))⟩]) .ret)))⟩
theorem c_slices_Clone_Range : compF Try.prog ⟨some 52, some 53⟩ Try.f42 = some r_slices_Clone_Range := by kernel_rfl
/-- tenancy/tenancyref01.Add -/
def r_r01_Add : RF :=
  ⟨35, [(.cell (some 2) 4), (.tmp 5)], (.seq (.reg [⟨(some 2), none, (.box (some 2) (.t 0))⟩, ⟨(some 3), none, (.box (some 2) (.t 1))⟩, 
  ⟨(some 4), none, (.new [(.int .u64 0), (.int .u64 0)])⟩, ⟨(some 5), none, (.mv (.k (.bool false)))⟩]) (.seq (.reg [⟨(some 10), none, (.bld [(.int .u64 0), (.int .u64 0)] [])⟩, 
  ⟨(some 6), none, (.new [(.int .u64 0), (.int .u64 0)])⟩, ⟨none, none, (.st (some 2) (.t 6) (.t 10))⟩]) (.seq (.reg [⟨(some 7), none, (.mv (.k (.int .u64 0)))⟩]) (.seq (.seq 
  (.reg [⟨(some 8), none, (.mv (.k (.int .i64 127)))⟩]) (.block 0 (.loop (.seq (.seq (.reg [⟨(some 11), none, (.mv (.t 8))⟩, 
  ⟨(some 12), none, (.bin .geq (.t 11) (.k (.int .i64 0)))⟩]) (.cond (.t 12) .skip (.exit 0))) (.seq (.block 1 (.seq 
  (.drw 0 [⟨⟨(some 15), none, (.ld (some 2) (.t 2))⟩, .ld, [], []⟩, ⟨⟨(some 16), none, (.mv (.t 8))⟩, .pure, [0], []⟩, 
  ⟨⟨(some 17), none, (.call f_r01_bit [(.t 15), (.t 16)])⟩, .eff, [], []⟩, ⟨⟨(some 18), none, (.ld (some 2) (.t 3))⟩, .ld, [2], []⟩, 
  ⟨⟨(some 19), none, (.mv (.t 8))⟩, .pure, [0, 3], []⟩, ⟨⟨(some 20), none, (.call f_r01_bit [(.t 18), (.t 19)])⟩, .eff, [], []⟩, 
  ⟨⟨(some 21), none, (.bin .add (.t 17) (.t 20))⟩, .pure, [], []⟩, ⟨⟨(some 22), none, (.mv (.t 7))⟩, .pure, [0, 3], []⟩, 
  ⟨⟨(some 23), none, (.bin .add (.t 21) (.t 22))⟩, .pure, [], []⟩, ⟨⟨(some 9), none, (.mv (.t 23))⟩, .pure, [], []⟩]) (.seq (.seq (.reg [⟨(some 24), none, (.mv (.t 9))⟩, 
  ⟨(some 25), none, (.bin .rem (.t 24) (.k (.int .u64 2)))⟩, ⟨(some 26), none, (.eq false .i (.t 25) (.k (.int .u64 1)))⟩]) (.cond (.t 26) 
  (.reg [⟨(some 27), none, (.ld (some 2) (.t 6))⟩, ⟨(some 28), none, (.mv (.t 8))⟩, ⟨(some 29), none, (.call f_r01_with [(.t 27), (.t 28)])⟩, 
  ⟨none, none, (.st (some 2) (.t 6) (.t 29))⟩]) .skip)) (.reg [⟨(some 30), none, (.mv (.t 9))⟩, ⟨(some 31), none, (.bin .quo (.t 30) (.k (.int .u64 2)))⟩, 
  ⟨(some 7), none, (.mv (.t 31))⟩])))) (.reg [⟨(some 13), none, (.mv (.t 8))⟩, ⟨(some 14), none, (.bin .sub (.t 13) (.k (.int .i64 1)))⟩, ⟨(some 8), none, (.mv (.t 14))⟩])))))) 
  (.seq (.reg [⟨(some 32), none, (.ld (some 2) (.t 6))⟩, ⟨(some 33), none, (.mv (.t 7))⟩, ⟨(some 34), none, (.eq false .i (.t 33) (.k (.int .u64 1)))⟩, 
  ⟨none, none, (.st (some 2) (.t 4) (.t 32))⟩, ⟨(some 5), none, (.mv (.t 34))⟩]) .ret)))))⟩
theorem c_r01_Add : compF Try.prog ⟨some 52, some 53⟩ Try.f43 = some r_r01_Add := by kernel_rfl
/-- tenancy/tenancyref03.size -/
def r_r03_size : RF :=
  ⟨19, [(.cell (some 2) 2)], (.seq (.reg [⟨(some 1), none, (.box (some 4) (.t 0))⟩, ⟨(some 2), none, (.new [(.int .u64 0), (.int .u64 0)])⟩]) (.seq 
  (.reg [⟨(some 6), none, (.off 2 (.t 1))⟩, ⟨(some 7), none, (.ld (some 2) (.t 6))⟩, ⟨(some 8), none, (.off 0 (.t 1))⟩, ⟨(some 9), none, (.ld (some 2) (.t 8))⟩, 
  ⟨(some 10), none, (.call f_r01_Sub [(.t 7), (.t 9)])⟩, ⟨(some 5), none, (.mv (.t 10))⟩, ⟨(some 11), none, (.ext 0 (.t 5))⟩, ⟨(some 12), none, (.ext 1 (.t 5))⟩, 
  ⟨(some 3), none, (.new [(.int .u64 0), (.int .u64 0)])⟩, ⟨none, none, (.st (some 2) (.t 3) (.t 11))⟩, ⟨(some 4), none, (.mv (.t 12))⟩]) (.seq 
  (.reg [⟨(some 14), none, (.ld (some 2) (.t 3))⟩, ⟨(some 15), none, (.call f_r03_next [(.t 14)])⟩, ⟨(some 13), none, (.mv (.t 15))⟩, ⟨(some 16), none, (.ext 0 (.t 13))⟩, 
  ⟨(some 17), none, (.ext 1 (.t 13))⟩, ⟨none, none, (.st (some 2) (.t 3) (.t 16))⟩]) (.seq (.reg [⟨(some 18), none, (.ld (some 2) (.t 3))⟩, 
  ⟨none, none, (.st (some 2) (.t 2) (.t 18))⟩]) .ret))))⟩
theorem c_r03_size : compF Try.prog ⟨some 52, some 53⟩ Try.f44 = some r_r03_size := by kernel_rfl
/-- tenancy/tenancyref01.Sub -/
def r_r01_Sub : RF :=
  ⟨37, [(.cell (some 2) 4), (.tmp 5)], (.seq (.reg [⟨(some 2), none, (.box (some 2) (.t 0))⟩, ⟨(some 3), none, (.box (some 2) (.t 1))⟩, 
  ⟨(some 4), none, (.new [(.int .u64 0), (.int .u64 0)])⟩, ⟨(some 5), none, (.mv (.k (.bool false)))⟩]) (.seq (.reg [⟨(some 10), none, (.bld [(.int .u64 0), (.int .u64 0)] [])⟩, 
  ⟨(some 6), none, (.new [(.int .u64 0), (.int .u64 0)])⟩, ⟨none, none, (.st (some 2) (.t 6) (.t 10))⟩]) (.seq (.reg [⟨(some 7), none, (.mv (.k (.int .u64 0)))⟩]) (.seq (.seq 
  (.reg [⟨(some 8), none, (.mv (.k (.int .i64 127)))⟩]) (.block 0 (.loop (.seq (.seq (.reg [⟨(some 11), none, (.mv (.t 8))⟩, 
  ⟨(some 12), none, (.bin .geq (.t 11) (.k (.int .i64 0)))⟩]) (.cond (.t 12) .skip (.exit 0))) (.seq (.block 1 (.seq 
  (.drw 0 [⟨⟨(some 15), none, (.ld (some 2) (.t 2))⟩, .ld, [], []⟩, ⟨⟨(some 16), none, (.mv (.t 8))⟩, .pure, [0], []⟩, 
  ⟨⟨(some 17), none, (.call f_r01_bit [(.t 15), (.t 16)])⟩, .eff, [], []⟩, ⟨⟨(some 18), none, (.bin .add (.t 17) (.k (.int .u64 2)))⟩, .pure, [], []⟩, 
  ⟨⟨(some 19), none, (.ld (some 2) (.t 3))⟩, .ld, [2], []⟩, ⟨⟨(some 20), none, (.mv (.t 8))⟩, .pure, [0, 4], []⟩, 
  ⟨⟨(some 21), none, (.call f_r01_bit [(.t 19), (.t 20)])⟩, .eff, [], []⟩, ⟨⟨(some 22), none, (.bin .sub (.t 18) (.t 21))⟩, .pure, [], []⟩, 
  ⟨⟨(some 23), none, (.mv (.t 7))⟩, .pure, [0, 4], []⟩, ⟨⟨(some 24), none, (.bin .sub (.t 22) (.t 23))⟩, .pure, [], []⟩, ⟨⟨(some 9), none, (.mv (.t 24))⟩, .pure, [], []⟩]) (.seq 
  (.seq (.reg [⟨(some 25), none, (.mv (.t 9))⟩, ⟨(some 26), none, (.bin .rem (.t 25) (.k (.int .u64 2)))⟩, ⟨(some 27), none, (.eq false .i (.t 26) (.k (.int .u64 1)))⟩]) 
  (.cond (.t 27) (.reg [⟨(some 28), none, (.ld (some 2) (.t 6))⟩, ⟨(some 29), none, (.mv (.t 8))⟩, ⟨(some 30), none, (.call f_r01_with [(.t 28), (.t 29)])⟩, 
  ⟨none, none, (.st (some 2) (.t 6) (.t 30))⟩]) .skip)) (.reg [⟨(some 31), none, (.mv (.t 9))⟩, ⟨(some 32), none, (.bin .quo (.t 31) (.k (.int .u64 2)))⟩, 
  ⟨(some 33), none, (.bin .sub (.k (.int .u64 1)) (.t 32))⟩, ⟨(some 7), none, (.mv (.t 33))⟩])))) (.reg [⟨(some 13), none, (.mv (.t 8))⟩, 
  ⟨(some 14), none, (.bin .sub (.t 13) (.k (.int .i64 1)))⟩, ⟨(some 8), none, (.mv (.t 14))⟩])))))) (.seq (.reg [⟨(some 34), none, (.ld (some 2) (.t 6))⟩, 
  ⟨(some 35), none, (.mv (.t 7))⟩, ⟨(some 36), none, (.eq false .i (.t 35) (.k (.int .u64 1)))⟩, ⟨none, none, (.st (some 2) (.t 4) (.t 34))⟩, 
  ⟨(some 5), none, (.mv (.t 36))⟩]) .ret)))))⟩
theorem c_r01_Sub : compF Try.prog ⟨some 52, some 53⟩ Try.f45 = some r_r01_Sub := by kernel_rfl
/-- tenancy/tenancyref03.ahead -/
def r_r03_ahead : RF :=
  ⟨15, [(.cell (some 2) 2), (.tmp 3)], (.seq (.reg [⟨(some 1), none, (.box (some 2) (.t 0))⟩, ⟨(some 2), none, (.new [(.int .u64 0), (.int .u64 0)])⟩, 
  ⟨(some 3), none, (.mv (.k (.bool false)))⟩]) (.seq (.reg [⟨(some 7), none, (.ld (some 2) (.t 1))⟩, 
  ⟨(some 8), none, (.bld [(.int .u64 0), (.int .u64 0)] [(1, (1, (.k (.int .u64 1))))])⟩, ⟨(some 9), none, (.call f_r01_Sub [(.t 7), (.t 8)])⟩, ⟨(some 6), none, (.mv (.t 9))⟩, 
  ⟨(some 10), none, (.ext 0 (.t 6))⟩, ⟨(some 11), none, (.ext 1 (.t 6))⟩, ⟨(some 4), none, (.new [(.int .u64 0), (.int .u64 0)])⟩, ⟨none, none, (.st (some 2) (.t 4) (.t 10))⟩, 
  ⟨(some 5), none, (.mv (.t 11))⟩]) (.seq (.reg [⟨(some 12), none, (.ld (some 2) (.t 4))⟩, ⟨(some 13), none, (.mv (.t 5))⟩, ⟨(some 14), none, (.un .not (.t 13))⟩, 
  ⟨none, none, (.st (some 2) (.t 2) (.t 12))⟩, ⟨(some 3), none, (.mv (.t 14))⟩]) .ret)))⟩
theorem c_r03_ahead : compF Try.prog ⟨some 52, some 53⟩ Try.f46 = some r_r03_ahead := by kernel_rfl
/-- slices.ContainsFunc[[]tenancy/api.Range,tenancy/api.Range] -/
def r_slices_ContainsFunc_Range : RF :=
  ⟨9, [(.tmp 4)], (.seq (.reg [⟨(some 4), none, (.mv (.k (.bool false)))⟩]) (.seq (.reg [⟨(some 5), none, (.mv (.t 0))⟩, ⟨(some 6), none, (.mv (.t 1))⟩, 
  ⟨(some 7), none, (.call f_slices_IndexFunc_Range [(.t 5), (.t 6)])⟩, ⟨(some 8), none, (.bin .geq (.t 7) (.k (.int .i64 0)))⟩, ⟨(some 4), none, (.mv (.t 8))⟩]) .ret))⟩
theorem c_slices_ContainsFunc_Range : compF Try.prog ⟨some 52, some 53⟩ Try.f47 = some r_slices_ContainsFunc_Range := by kernel_rfl
/-- tenancy/span.Has$1 -/
def r_span_Has_1 : RF :=
  ⟨16, [(.tmp 3)], (.seq (.reg [⟨(some 2), none, (.box (some 4) (.t 0))⟩, ⟨(some 3), none, (.mv (.k (.bool false)))⟩]) (.seq (.reg [⟨(some 4), none, (.ld (some 2) (.t 1))⟩, 
  ⟨(some 5), none, (.off 0 (.t 2))⟩, ⟨(some 6), none, (.ld (some 2) (.t 5))⟩, ⟨(some 7), none, (.call f_span_below [(.t 4), (.t 6)])⟩, ⟨(some 8), none, (.un .not (.t 7))⟩, 
  ⟨(some 9), none, (.mv (.t 8))⟩, ⟨(some 10), (some (9, true)), (.off 2 (.t 2))⟩, ⟨(some 11), (some (9, true)), (.ld (some 2) (.t 10))⟩, 
  ⟨(some 12), (some (9, true)), (.ld (some 2) (.t 1))⟩, ⟨(some 13), (some (9, true)), (.call f_span_below [(.t 11), (.t 12)])⟩, ⟨(some 14), (some (9, true)), (.un .not (.t 13))⟩, 
  ⟨(some 15), none, (.pick (.t 9) (.t 14) (.k (.bool false)))⟩, ⟨(some 3), none, (.mv (.t 15))⟩]) .ret))⟩
theorem c_span_Has_1 : compF Try.prog ⟨some 52, some 53⟩ Try.f48 = some r_span_Has_1 := by kernel_rfl
/-- tenancy/tenancyref03.in -/
def r_r03_in : RF :=
  ⟨28, [(.tmp 4)], (.seq (.reg [⟨(some 3), none, (.box (some 2) (.t 1))⟩, ⟨(some 4), none, (.mv (.k (.bool false)))⟩]) (.seq (.seq 
  (.reg [⟨(some 5), none, (.mv (.k (.int .i64 0)))⟩]) (.block 0 (.loop (.seq (.seq (.reg [⟨(some 6), none, (.mv (.t 5))⟩, ⟨(some 7), none, (.mv (.t 0))⟩, 
  ⟨(some 8), none, (.lenl (.t 7))⟩, ⟨(some 9), none, (.bin .lss (.t 6) (.t 8))⟩]) (.cond (.t 9) .skip (.exit 0))) (.seq (.block 1 (.seq 
  (.drw 0 [⟨⟨(some 12), none, (.mv (.t 0))⟩, .pure, [], []⟩, ⟨⟨(some 13), none, (.mv (.t 5))⟩, .pure, [], []⟩, ⟨⟨(some 14), none, (.ixa 4 (.t 12) (.t 13))⟩, .pure, [], []⟩, 
  ⟨⟨(some 15), none, (.off 0 (.t 14))⟩, .pure, [], []⟩, ⟨⟨(some 16), none, (.ld (some 2) (.t 15))⟩, .ld, [], []⟩, ⟨⟨(some 17), none, (.ld (some 2) (.t 3))⟩, .ld, [], []⟩, 
  ⟨⟨(some 18), none, (.call f_r03_le [(.t 16), (.t 17)])⟩, .eff, [], []⟩, ⟨⟨(some 19), none, (.mv (.t 18))⟩, .pure, [], []⟩, 
  ⟨⟨(some 20), (some (19, true)), (.ld (some 2) (.t 3))⟩, .ld, [], []⟩, ⟨⟨(some 21), (some (19, true)), (.mv (.t 0))⟩, .pure, [8], []⟩, 
  ⟨⟨(some 22), (some (19, true)), (.mv (.t 5))⟩, .pure, [8], []⟩, ⟨⟨(some 23), (some (19, true)), (.ixa 4 (.t 21) (.t 22))⟩, .pure, [8], []⟩, 
  ⟨⟨(some 24), (some (19, true)), (.off 2 (.t 23))⟩, .pure, [8], []⟩, ⟨⟨(some 25), (some (19, true)), (.ld (some 2) (.t 24))⟩, .ld, [], []⟩, 
  ⟨⟨(some 26), (some (19, true)), (.call f_r03_le [(.t 20), (.t 25)])⟩, .eff, [], []⟩, ⟨⟨(some 27), none, (.pick (.t 19) (.t 26) (.k (.bool false)))⟩, .pure, [], []⟩]) 
  (.cond (.t 27) (.seq (.reg [⟨(some 4), none, (.mv (.k (.bool true)))⟩]) .ret) .skip))) (.reg [⟨(some 10), none, (.mv (.t 5))⟩, 
  ⟨(some 11), none, (.bin .add (.t 10) (.k (.int .i64 1)))⟩, ⟨(some 5), none, (.mv (.t 11))⟩])))))) (.seq (.reg [⟨(some 4), none, (.mv (.k (.bool false)))⟩]) .ret)))⟩
theorem c_r03_in : compF Try.prog ⟨some 52, some 53⟩ Try.f49 = some r_r03_in := by kernel_rfl
/-- cmp.Or[int] -/
def r_cmp_Or_int : RF :=
  ⟨18, [(.tmp 2)], (.seq (.reg [⟨(some 2), none, (.mv (.k (.int .i64 0)))⟩]) (.seq (.reg [⟨(some 3), none, (.mv (.k (.int .i64 0)))⟩]) (.seq (.seq 
  (.reg [⟨(some 6), none, (.mv (.t 0))⟩, ⟨(some 7), none, (.lenl (.t 6))⟩, ⟨(some 8), none, (.mv (.k (.int .i64 0)))⟩]) (.block 0 (.loop (.seq 
  (.reg [⟨(some 9), none, (.bin .lss (.t 8) (.t 7))⟩]) (.seq (.cond (.t 9) .skip (.exit 0)) (.seq (.block 1 (.seq (.reg [⟨(some 10), none, (.ixa 1 (.t 6) (.t 8))⟩, 
  ⟨(some 11), none, (.ld none (.t 10))⟩, ⟨(some 5), none, (.mv (.t 11))⟩]) (.seq (.reg [⟨(some 12), none, (.mv (.t 5))⟩, ⟨(some 13), none, (.mv (.t 3))⟩, 
  ⟨(some 14), none, (.eq true .i (.t 12) (.t 13))⟩]) (.cond (.t 14) (.seq (.reg [⟨(some 15), none, (.mv (.t 5))⟩, ⟨(some 2), none, (.mv (.t 15))⟩]) .ret) .skip)))) 
  (.reg [⟨(some 16), none, (.bin .add (.t 8) (.k (.int .i64 1)))⟩, ⟨(some 8), none, (.mv (.t 16))⟩]))))))) (.seq (.reg [⟨(some 17), none, (.mv (.t 3))⟩, 
  ⟨(some 2), none, (.mv (.t 17))⟩]) .ret))))⟩
theorem c_cmp_Or_int : compF Try.prog ⟨some 52, some 53⟩ Try.f50 = some r_cmp_Or_int := by kernel_rfl
/-- cmp.Compare[uint64] -/
def r_cmp_Compare_uint64 : RF :=
  ⟨20, [(.tmp 4)], (.seq (.reg [⟨(some 4), none, (.mv (.k (.int .i64 0)))⟩]) (.seq (.reg [⟨(some 7), none, (.mv (.t 0))⟩, ⟨(some 8), none, (.call f_cmp_isNaN_uint64 [(.t 7)])⟩, 
  ⟨(some 5), none, (.mv (.t 8))⟩]) (.seq (.reg [⟨(some 9), none, (.mv (.t 1))⟩, ⟨(some 10), none, (.call f_cmp_isNaN_uint64 [(.t 9)])⟩, ⟨(some 6), none, (.mv (.t 10))⟩]) (.seq (.seq 
  (.reg [⟨(some 11), none, (.mv (.t 5))⟩]) (.cond (.t 11) (.seq (.seq (.reg [⟨(some 12), none, (.mv (.t 6))⟩]) (.cond (.t 12) (.seq 
  (.reg [⟨(some 4), none, (.mv (.k (.int .i64 0)))⟩]) .ret) .skip)) (.seq (.reg [⟨(some 4), none, (.mv (.k (.int .i64 (-1))))⟩]) .ret)) .skip)) (.seq (.seq 
  (.reg [⟨(some 13), none, (.mv (.t 6))⟩]) (.cond (.t 13) (.seq (.reg [⟨(some 4), none, (.mv (.k (.int .i64 1)))⟩]) .ret) .skip)) (.seq (.seq (.reg [⟨(some 14), none, (.mv (.t 0))⟩, 
  ⟨(some 15), none, (.mv (.t 1))⟩, ⟨(some 16), none, (.bin .lss (.t 14) (.t 15))⟩]) (.cond (.t 16) (.seq (.reg [⟨(some 4), none, (.mv (.k (.int .i64 (-1))))⟩]) .ret) .skip)) (.seq 
  (.seq (.reg [⟨(some 17), none, (.mv (.t 0))⟩, ⟨(some 18), none, (.mv (.t 1))⟩, ⟨(some 19), none, (.bin .gtr (.t 17) (.t 18))⟩]) (.cond (.t 19) (.seq 
  (.reg [⟨(some 4), none, (.mv (.k (.int .i64 1)))⟩]) .ret) .skip)) (.seq (.reg [⟨(some 4), none, (.mv (.k (.int .i64 0)))⟩]) .ret))))))))⟩
theorem c_cmp_Compare_uint64 : compF Try.prog ⟨some 52, some 53⟩ Try.f51 = some r_cmp_Compare_uint64 := by kernel_rfl
/-- slices.Grow[[]tenancy/api.Range,tenancy/api.Range] -/
def r_slices_Grow_Range : RF :=
  ⟨27, [(.tmp 4)], (.seq (.reg [⟨(some 4), none, (.mv (.k .nils))⟩]) (.seq (.seq (.reg [⟨(some 5), none, (.mv (.t 1))⟩, ⟨(some 6), none, (.bin .lss (.t 5) (.k (.int .i64 0)))⟩]) 
  (.cond (.t 6) (.reg [⟨(some 7), none, (.mki 9 (.k (.str (bts [99, 97, 110, 110, 111, 116, 32, 98, 101, 32, 110, 101, 103, 97, 116, 105, 118, 101]))))⟩, 
  ⟨none, none, .fail⟩]) .skip)) (.seq (.seq (.reg [⟨(some 8), none, (.mv (.t 1))⟩, ⟨(some 9), none, (.mv (.t 0))⟩, ⟨(some 10), none, (.capl (.t 9))⟩, 
  ⟨(some 11), none, (.mv (.t 0))⟩, ⟨(some 12), none, (.lenl (.t 11))⟩, ⟨(some 13), none, (.bin .sub (.t 10) (.t 12))⟩, ⟨(some 14), none, (.bin .sub (.t 8) (.t 13))⟩, 
  ⟨(some 1), none, (.mv (.t 14))⟩]) (.seq (.reg [⟨(some 15), none, (.mv (.t 1))⟩, ⟨(some 16), none, (.bin .gtr (.t 15) (.k (.int .i64 0)))⟩]) (.cond (.t 16) 
  (.reg [⟨(some 17), none, (.mv (.t 0))⟩, ⟨(some 18), none, (.mv (.t 0))⟩, ⟨(some 19), none, (.capl (.t 18))⟩, ⟨(some 20), none, (.slc 4 (.t 17) none (some (.t 19)) none)⟩, 
  ⟨(some 21), none, (.mv (.t 1))⟩, ⟨(some 22), none, (.appz 4 32 [(.int .u64 0), (.int .u64 0), (.int .u64 0), (.int .u64 0)] (.t 20) (.t 21))⟩, ⟨(some 23), none, (.mv (.t 0))⟩, 
  ⟨(some 24), none, (.lenl (.t 23))⟩, ⟨(some 25), none, (.slc 4 (.t 22) none (some (.t 24)) none)⟩, ⟨(some 0), none, (.mv (.t 25))⟩]) .skip))) (.seq 
  (.reg [⟨(some 26), none, (.mv (.t 0))⟩, ⟨(some 4), none, (.mv (.t 26))⟩]) .ret))))⟩
theorem c_slices_Grow_Range : compF Try.prog ⟨some 52, some 53⟩ Try.f54 = some r_slices_Grow_Range := by kernel_rfl
/-- tenancy/tenancyref01.Cmp -/
def r_r01_Cmp : RF :=
  ⟨24, [(.tmp 4)], (.seq (.reg [⟨(some 2), none, (.box (some 2) (.t 0))⟩, ⟨(some 3), none, (.box (some 2) (.t 1))⟩, ⟨(some 4), none, (.mv (.k (.int .i64 0)))⟩]) (.seq (.seq 
  (.reg [⟨(some 5), none, (.mv (.k (.int .i64 0)))⟩]) (.block 0 (.loop (.seq (.seq (.reg [⟨(some 6), none, (.mv (.t 5))⟩, ⟨(some 7), none, (.bin .lss (.t 6) (.k (.int .i64 128)))⟩]) 
  (.cond (.t 7) .skip (.exit 0))) (.seq (.block 1 (.seq (.seq (.drw 0 [⟨⟨(some 10), none, (.ld (some 2) (.t 2))⟩, .ld, [], []⟩, ⟨⟨(some 11), none, (.mv (.t 5))⟩, .pure, [0], []⟩, 
  ⟨⟨(some 12), none, (.call f_r01_bit [(.t 10), (.t 11)])⟩, .eff, [], []⟩, ⟨⟨(some 13), none, (.ld (some 2) (.t 3))⟩, .ld, [2], []⟩, 
  ⟨⟨(some 14), none, (.mv (.t 5))⟩, .pure, [0, 3], []⟩, ⟨⟨(some 15), none, (.call f_r01_bit [(.t 13), (.t 14)])⟩, .eff, [], []⟩, 
  ⟨⟨(some 16), none, (.bin .lss (.t 12) (.t 15))⟩, .pure, [], []⟩]) (.cond (.t 16) (.seq (.reg [⟨(some 4), none, (.mv (.k (.int .i64 (-1))))⟩]) .ret) .skip)) (.seq 
  (.drw 0 [⟨⟨(some 17), none, (.ld (some 2) (.t 2))⟩, .ld, [], []⟩, ⟨⟨(some 18), none, (.mv (.t 5))⟩, .pure, [0], []⟩, 
  ⟨⟨(some 19), none, (.call f_r01_bit [(.t 17), (.t 18)])⟩, .eff, [], []⟩, ⟨⟨(some 20), none, (.ld (some 2) (.t 3))⟩, .ld, [2], []⟩, 
  ⟨⟨(some 21), none, (.mv (.t 5))⟩, .pure, [0, 3], []⟩, ⟨⟨(some 22), none, (.call f_r01_bit [(.t 20), (.t 21)])⟩, .eff, [], []⟩, 
  ⟨⟨(some 23), none, (.bin .gtr (.t 19) (.t 22))⟩, .pure, [], []⟩]) (.cond (.t 23) (.seq (.reg [⟨(some 4), none, (.mv (.k (.int .i64 1)))⟩]) .ret) .skip)))) 
  (.reg [⟨(some 8), none, (.mv (.t 5))⟩, ⟨(some 9), none, (.bin .add (.t 8) (.k (.int .i64 1)))⟩, ⟨(some 5), none, (.mv (.t 9))⟩])))))) (.seq 
  (.reg [⟨(some 4), none, (.mv (.k (.int .i64 0)))⟩]) .ret)))⟩
theorem c_r01_Cmp : compF Try.prog ⟨some 52, some 53⟩ Try.f55 = some r_r01_Cmp := by kernel_rfl
/-- tenancy/tenancyref03.edges -/
def r_r03_edges : RF :=
  ⟨36, [(.tmp 2)], (.seq (.reg [⟨(some 2), none, (.mv (.k .nils))⟩]) (.seq (.reg [⟨(some 7), none, (.bld [(.int .u64 0), (.int .u64 0)] [])⟩, 
  ⟨(some 8), none, (.bsl 2 1 [(.int .u64 0), (.int .u64 0)] [(0, (2, (.t 7)))])⟩, ⟨(some 3), none, (.mv (.t 8))⟩]) (.seq (.seq (.reg [⟨(some 4), none, (.mv (.k (.int .i64 0)))⟩]) 
  (.block 0 (.loop (.seq (.seq (.reg [⟨(some 9), none, (.mv (.t 4))⟩, ⟨(some 10), none, (.mv (.t 0))⟩, ⟨(some 11), none, (.lenl (.t 10))⟩, 
  ⟨(some 12), none, (.bin .lss (.t 9) (.t 11))⟩]) (.cond (.t 12) .skip (.exit 0))) (.seq (.block 1 (.seq (.reg [⟨(some 15), none, (.mv (.t 3))⟩, ⟨(some 16), none, (.mv (.t 0))⟩, 
  ⟨(some 17), none, (.mv (.t 4))⟩, ⟨(some 18), none, (.ixa 4 (.t 16) (.t 17))⟩, ⟨(some 19), none, (.off 0 (.t 18))⟩, ⟨(some 20), none, (.ld (some 2) (.t 19))⟩, 
  ⟨(some 21), none, (.call f_r03_with [(.t 15), (.t 20)])⟩, ⟨(some 3), none, (.mv (.t 21))⟩]) (.seq (.reg [⟨(some 23), none, (.mv (.t 0))⟩, ⟨(some 24), none, (.mv (.t 4))⟩, 
  ⟨(some 25), none, (.ixa 4 (.t 23) (.t 24))⟩, ⟨(some 26), none, (.off 2 (.t 25))⟩, ⟨(some 27), none, (.ld (some 2) (.t 26))⟩, ⟨(some 28), none, (.call f_r03_next [(.t 27)])⟩, 
  ⟨(some 22), none, (.mv (.t 28))⟩, ⟨(some 29), none, (.ext 0 (.t 22))⟩, ⟨(some 30), none, (.ext 1 (.t 22))⟩, ⟨(some 5), none, (.new [(.int .u64 0), (.int .u64 0)])⟩, 
  ⟨none, none, (.st (some 2) (.t 5) (.t 29))⟩, ⟨(some 6), none, (.mv (.t 30))⟩]) (.seq (.reg [⟨(some 31), none, (.mv (.t 6))⟩]) (.cond (.t 31) 
  (.reg [⟨(some 32), none, (.mv (.t 3))⟩, ⟨(some 33), none, (.ld (some 2) (.t 5))⟩, ⟨(some 34), none, (.call f_r03_with [(.t 32), (.t 33)])⟩, 
  ⟨(some 3), none, (.mv (.t 34))⟩]) .skip))))) (.reg [⟨(some 13), none, (.mv (.t 4))⟩, ⟨(some 14), none, (.bin .add (.t 13) (.k (.int .i64 1)))⟩, 
  ⟨(some 4), none, (.mv (.t 14))⟩])))))) (.seq (.reg [⟨(some 35), none, (.mv (.t 3))⟩, ⟨(some 2), none, (.mv (.t 35))⟩]) .ret))))⟩
theorem c_r03_edges : compF Try.prog ⟨some 52, some 53⟩ Try.f56 = some r_r03_edges := by kernel_rfl
/-- tenancy/tenancyref01.bit -/
def r_r01_bit : RF :=
  ⟨21, [(.tmp 4)], (.seq (.reg [⟨(some 2), none, (.box (some 2) (.t 0))⟩, ⟨(some 4), none, (.mv (.k (.int .u64 0)))⟩]) (.seq (.seq (.reg [⟨(some 5), none, (.mv (.t 1))⟩, 
  ⟨(some 6), none, (.bin .lss (.t 5) (.k (.int .i64 64)))⟩]) (.cond (.t 6) (.seq (.reg [⟨(some 7), none, (.off 0 (.t 2))⟩, ⟨(some 8), none, (.ld none (.t 7))⟩, 
  ⟨(some 9), none, (.mv (.t 1))⟩, ⟨(some 10), none, (.bin .sub (.k (.int .i64 63)) (.t 9))⟩, ⟨(some 11), none, (.cvi .u64 (.t 10))⟩, ⟨(some 12), none, (.bin .shr (.t 8) (.t 11))⟩, 
  ⟨(some 13), none, (.bin .and (.t 12) (.k (.int .u64 1)))⟩, ⟨(some 4), none, (.mv (.t 13))⟩]) .ret) .skip)) (.seq (.reg [⟨(some 14), none, (.off 1 (.t 2))⟩, 
  ⟨(some 15), none, (.ld none (.t 14))⟩, ⟨(some 16), none, (.mv (.t 1))⟩, ⟨(some 17), none, (.bin .sub (.k (.int .i64 127)) (.t 16))⟩, ⟨(some 18), none, (.cvi .u64 (.t 17))⟩, 
  ⟨(some 19), none, (.bin .shr (.t 15) (.t 18))⟩, ⟨(some 20), none, (.bin .and (.t 19) (.k (.int .u64 1)))⟩, ⟨(some 4), none, (.mv (.t 20))⟩]) .ret)))⟩
theorem c_r01_bit : compF Try.prog ⟨some 52, some 53⟩ Try.f57 = some r_r01_bit := by kernel_rfl
/-- tenancy/tenancyref01.with -/
def r_r01_with : RF :=
  ⟨24, [(.cell (some 2) 4)], (.seq (.reg [⟨(some 2), none, (.box (some 2) (.t 0))⟩, ⟨(some 4), none, (.new [(.int .u64 0), (.int .u64 0)])⟩]) (.seq (.seq 
  (.reg [⟨(some 5), none, (.mv (.t 1))⟩, ⟨(some 6), none, (.bin .lss (.t 5) (.k (.int .i64 64)))⟩]) (.cond (.t 6) (.reg [⟨(some 7), none, (.off 0 (.t 2))⟩, 
  ⟨(some 8), none, (.ld none (.t 7))⟩, ⟨(some 9), none, (.mv (.t 1))⟩, ⟨(some 10), none, (.bin .sub (.k (.int .i64 63)) (.t 9))⟩, ⟨(some 11), none, (.cvi .u64 (.t 10))⟩, 
  ⟨(some 12), none, (.bin .shl (.k (.int .u64 1)) (.t 11))⟩, ⟨(some 13), none, (.bin .or (.t 8) (.t 12))⟩, ⟨(some 14), none, (.off 0 (.t 2))⟩, 
  ⟨none, none, (.st none (.t 14) (.t 13))⟩]) (.reg [⟨(some 15), none, (.off 1 (.t 2))⟩, ⟨(some 16), none, (.ld none (.t 15))⟩, ⟨(some 17), none, (.mv (.t 1))⟩, 
  ⟨(some 18), none, (.bin .sub (.k (.int .i64 127)) (.t 17))⟩, ⟨(some 19), none, (.cvi .u64 (.t 18))⟩, ⟨(some 20), none, (.bin .shl (.k (.int .u64 1)) (.t 19))⟩, 
  ⟨(some 21), none, (.bin .or (.t 16) (.t 20))⟩, ⟨(some 22), none, (.off 1 (.t 2))⟩, ⟨none, none, (.st none (.t 22) (.t 21))⟩]))) (.seq 
  (.reg [⟨(some 23), none, (.ld (some 2) (.t 2))⟩, ⟨none, none, (.st (some 2) (.t 4) (.t 23))⟩]) .ret)))⟩
theorem c_r01_with : compF Try.prog ⟨some 52, some 53⟩ Try.f58 = some r_r01_with := by kernel_rfl
/-- slices.IndexFunc[[]tenancy/api.Range,tenancy/api.Range] -/
def r_slices_IndexFunc_Range : RF :=
  ⟨19, [(.tmp 4)], (.seq (.reg [⟨(some 4), none, (.mv (.k (.int .i64 0)))⟩]) (.seq (.seq (.reg [⟨(some 6), none, (.mv (.t 0))⟩, ⟨(some 7), none, (.lenl (.t 6))⟩, 
  ⟨(some 8), none, (.mv (.k (.int .i64 0)))⟩]) (.block 0 (.loop (.seq (.reg [⟨(some 9), none, (.bin .lss (.t 8) (.t 7))⟩]) (.seq (.cond (.t 9) .skip (.exit 0)) (.seq (.block 1 (.seq 
  (.reg [⟨(some 10), none, (.mv (.t 8))⟩, ⟨(some 5), none, (.mv (.t 10))⟩]) (.seq (.reg [⟨(some 11), none, (.mv (.t 1))⟩, ⟨(some 12), none, (.mv (.t 0))⟩, 
  ⟨(some 13), none, (.mv (.t 5))⟩, ⟨(some 14), none, (.ixa 4 (.t 12) (.t 13))⟩, ⟨(some 15), none, (.ld (some 4) (.t 14))⟩, ⟨(some 16), none, (.calld (.t 11) [(.t 15)])⟩]) 
  (.cond (.t 16) (.seq (.reg [⟨(some 17), none, (.mv (.t 5))⟩, ⟨(some 4), none, (.mv (.t 17))⟩]) .ret) .skip)))) (.reg [⟨(some 18), none, (.bin .add (.t 8) (.k (.int .i64 1)))⟩, 
  ⟨(some 8), none, (.mv (.t 18))⟩]))))))) (.seq (.reg [⟨(some 4), none, (.mv (.k (.int .i64 (-1))))⟩]) .ret)))⟩
theorem c_slices_IndexFunc_Range : compF Try.prog ⟨some 52, some 53⟩ Try.f59 = some r_slices_IndexFunc_Range := by kernel_rfl
/-- cmp.isNaN[uint64] -/
def r_cmp_isNaN_uint64 : RF :=
  ⟨6, [(.tmp 2)], (.seq (.reg [⟨(some 2), none, (.mv (.k (.bool false)))⟩]) (.seq (.reg [⟨(some 3), none, (.mv (.t 0))⟩, ⟨(some 4), none, (.mv (.t 0))⟩, 
  ⟨(some 5), none, (.eq true .i (.t 3) (.t 4))⟩, ⟨(some 2), none, (.mv (.t 5))⟩]) .ret))⟩
theorem c_cmp_isNaN_uint64 : compF Try.prog ⟨some 52, some 53⟩ Try.f60 = some r_cmp_isNaN_uint64 := by kernel_rfl
/-- tenancy/tenancyref03.with -/
def r_r03_with : RF :=
  ⟨60, [(.tmp 4)], (.seq (.reg [⟨(some 3), none, (.box (some 2) (.t 1))⟩, ⟨(some 4), none, (.mv (.k .nils))⟩]) (.seq (.reg [⟨(some 5), none, (.mv (.k (.int .i64 0)))⟩]) (.seq 
  (.block 0 (.loop (.seq (.seq (.drw 0 [⟨⟨(some 7), none, (.mv (.t 5))⟩, .pure, [], []⟩, ⟨⟨(some 8), none, (.mv (.t 0))⟩, .pure, [], []⟩, 
  ⟨⟨(some 9), none, (.lenl (.t 8))⟩, .pure, [], []⟩, ⟨⟨(some 10), none, (.bin .lss (.t 7) (.t 9))⟩, .pure, [], []⟩, ⟨⟨(some 11), none, (.mv (.t 10))⟩, .pure, [], []⟩, 
  ⟨⟨(some 12), (some (11, true)), (.mv (.t 0))⟩, .pure, [], []⟩, ⟨⟨(some 13), (some (11, true)), (.mv (.t 5))⟩, .pure, [], []⟩, 
  ⟨⟨(some 14), (some (11, true)), (.ixa 2 (.t 12) (.t 13))⟩, .pure, [], []⟩, ⟨⟨(some 15), (some (11, true)), (.ld (some 2) (.t 14))⟩, .ld, [], []⟩, 
  ⟨⟨(some 16), (some (11, true)), (.ld (some 2) (.t 3))⟩, .ld, [], []⟩, ⟨⟨(some 17), (some (11, true)), (.call f_r01_Cmp [(.t 15), (.t 16)])⟩, .eff, [], []⟩, 
  ⟨⟨(some 18), (some (11, true)), (.bin .lss (.t 17) (.k (.int .i64 0)))⟩, .pure, [], []⟩, ⟨⟨(some 19), none, (.pick (.t 11) (.t 18) (.k (.bool false)))⟩, .pure, [], []⟩]) 
  (.cond (.t 19) .skip (.exit 0))) (.block 1 (.reg [⟨(some 20), none, (.mv (.t 5))⟩, ⟨(some 21), none, (.bin .add (.t 20) (.k (.int .i64 1)))⟩, ⟨(some 5), none, (.mv (.t 21))⟩]))))) 
  (.seq (.seq (.drw 0 [⟨⟨(some 22), none, (.mv (.t 5))⟩, .pure, [], []⟩, ⟨⟨(some 23), none, (.mv (.t 0))⟩, .pure, [], []⟩, ⟨⟨(some 24), none, (.lenl (.t 23))⟩, .pure, [], []⟩, 
  ⟨⟨(some 25), none, (.bin .lss (.t 22) (.t 24))⟩, .pure, [], []⟩, ⟨⟨(some 26), none, (.mv (.t 25))⟩, .pure, [], []⟩, ⟨⟨(some 27), (some (26, true)), (.mv (.t 0))⟩, .pure, [], []⟩, 
  ⟨⟨(some 28), (some (26, true)), (.mv (.t 5))⟩, .pure, [], []⟩, ⟨⟨(some 29), (some (26, true)), (.ixa 2 (.t 27) (.t 28))⟩, .pure, [], []⟩, 
  ⟨⟨(some 30), (some (26, true)), (.ld (some 2) (.t 29))⟩, .ld, [], []⟩, ⟨⟨(some 31), (some (26, true)), (.ld (some 2) (.t 3))⟩, .ld, [], []⟩, 
  ⟨⟨(some 32), (some (26, true)), (.eq false (.st (.one 0 .i (.one 1 .i .nil))) (.t 30) (.t 31))⟩, .pure, [], []⟩, 
  ⟨⟨(some 33), none, (.pick (.t 26) (.t 32) (.k (.bool false)))⟩, .pure, [], []⟩]) (.cond (.t 33) (.seq (.reg [⟨(some 34), none, (.mv (.t 0))⟩, 
  ⟨(some 4), none, (.mv (.t 34))⟩]) .ret) .skip)) (.seq (.reg [⟨(some 35), none, (.mv (.t 0))⟩, ⟨(some 36), none, (.ld (some 2) (.t 3))⟩, 
  ⟨(some 37), none, (.bsl 2 1 [(.int .u64 0), (.int .u64 0)] [(0, (2, (.t 36)))])⟩, ⟨(some 38), none, (.app 2 16 (.t 35) (.t 37))⟩, ⟨(some 0), none, (.mv (.t 38))⟩]) (.seq (.seq 
  (.reg [⟨(some 39), none, (.mv (.t 0))⟩, ⟨(some 40), none, (.lenl (.t 39))⟩, ⟨(some 41), none, (.bin .sub (.t 40) (.k (.int .i64 1)))⟩, ⟨(some 6), none, (.mv (.t 41))⟩]) (.block 2 
  (.loop (.seq (.seq (.reg [⟨(some 42), none, (.mv (.t 6))⟩, ⟨(some 43), none, (.mv (.t 5))⟩, ⟨(some 44), none, (.bin .gtr (.t 42) (.t 43))⟩]) (.cond (.t 44) .skip (.exit 2))) (.seq 
  (.block 3 (.reg [⟨(some 47), none, (.mv (.t 0))⟩, ⟨(some 48), none, (.mv (.t 6))⟩, ⟨(some 49), none, (.mv (.t 0))⟩, ⟨(some 50), none, (.mv (.t 6))⟩, 
  ⟨(some 51), none, (.bin .sub (.t 50) (.k (.int .i64 1)))⟩, ⟨(some 52), none, (.ixa 2 (.t 49) (.t 51))⟩, ⟨(some 53), none, (.ld (some 2) (.t 52))⟩, 
  ⟨(some 54), none, (.ixa 2 (.t 47) (.t 48))⟩, ⟨none, none, (.st (some 2) (.t 54) (.t 53))⟩])) (.reg [⟨(some 45), none, (.mv (.t 6))⟩, 
  ⟨(some 46), none, (.bin .sub (.t 45) (.k (.int .i64 1)))⟩, ⟨(some 6), none, (.mv (.t 46))⟩])))))) (.seq (.reg [⟨(some 55), none, (.mv (.t 0))⟩, ⟨(some 56), none, (.mv (.t 5))⟩, 
  ⟨(some 57), none, (.ld (some 2) (.t 3))⟩, ⟨(some 58), none, (.ixa 2 (.t 55) (.t 56))⟩, ⟨none, none, (.st (some 2) (.t 58) (.t 57))⟩]) (.seq (.reg [⟨(some 59), none, (.mv (.t 0))⟩, 
  ⟨(some 4), none, (.mv (.t 59))⟩]) .ret))))))))⟩
theorem c_r03_with : compF Try.prog ⟨some 52, some 53⟩ Try.f61 = some r_r03_with := by kernel_rfl
def ex0 : Ex := ⟨some 52, some 53⟩
def tbl : List (Nat × RF) := [(f_gosem_cut_init, r_gosem_cut_init), (f_w03_SpanActs, r_w03_SpanActs), (f_w03_SpanCounts, r_w03_SpanCounts), (f_w03_SpanMembers, r_w03_SpanMembers), (f_w03_SpanOrder, r_w03_SpanOrder), (f_w03_SpanPlaces, r_w03_SpanPlaces), (f_w03_SpanLess, r_w03_SpanLess), (f_w03_SpanMemory, r_w03_SpanMemory), (f_w03_awake, r_w03_awake), (f_span_Put, r_span_Put), (f_r03_Put, r_r03_Put), (f_w03_same, r_w03_same), (f_span_Sound, r_span_Sound), (f_r03_Sound, r_r03_Sound), (f_span_Drop, r_span_Drop), (f_r03_Drop, r_r03_Drop), (f_span_Less, r_span_Less), (f_r03_Less, r_r03_Less), (f_span_Count, r_span_Count), (f_r03_Count, r_r03_Count), (f_span_Nth, r_span_Nth), (f_r03_Nth, r_r03_Nth), (f_span_Has, r_span_Has), (f_r03_Has, r_r03_Has), (f_span_Rank, r_span_Rank), (f_r03_Rank, r_r03_Rank), (f_w03_built, r_w03_built), (f_addr_Cmp, r_addr_Cmp), (f_addr_Add, r_addr_Add), (f_addr_Sub, r_addr_Sub), (f_w03_in, r_w03_in), (f_w03_small, r_w03_small), (f_span_isRange, r_span_isRange), (f_span_apart, r_span_apart), (f_span_below, r_span_below), (f_slices_Concat_Range, r_slices_Concat_Range), (f_r03_le, r_r03_le), (f_r03_made, r_r03_made), (f_r03_next, r_r03_next), (f_span_one, r_span_one), (f_slices_Clone_Range, r_slices_Clone_Range), (f_r01_Add, r_r01_Add), (f_r03_size, r_r03_size), (f_r01_Sub, r_r01_Sub), (f_r03_ahead, r_r03_ahead), (f_slices_ContainsFunc_Range, r_slices_ContainsFunc_Range), (f_span_Has_1, r_span_Has_1), (f_r03_in, r_r03_in), (f_cmp_Or_int, r_cmp_Or_int), (f_cmp_Compare_uint64, r_cmp_Compare_uint64), (f_slices_Grow_Range, r_slices_Grow_Range), (f_r01_Cmp, r_r01_Cmp), (f_r03_edges, r_r03_edges), (f_r01_bit, r_r01_bit), (f_r01_with, r_r01_with), (f_slices_IndexFunc_Range, r_slices_IndexFunc_Range), (f_cmp_isNaN_uint64, r_cmp_isNaN_uint64), (f_r03_with, r_r03_with)]
def T (f : Nat) : Option RF := tbl.lookup f
theorem lookup_mem {f : Nat} {F : RF} : ∀ {l : List (Nat × RF)}, l.lookup f = some F → (f, F) ∈ l
  | [], h => by simp at h
  | (g, G) :: l, h => by
    simp only [List.lookup] at h
    split at h
    · rename_i he; simp at he h; subst he; subst h; simp
    · exact List.mem_cons_of_mem _ (lookup_mem h)
structure TF (x : Nat × RF) : Prop where
  ok : ∃ fn, Try.prog.funcs[x.1]? = some fn ∧ (fn.name == "runtime.NumGoroutine") = false ∧ compF Try.prog ex0 fn = some x.2
theorem k_gosem_cut_init : TF (f_gosem_cut_init, r_gosem_cut_init) := ⟨Try.f2, Try.func2, by kernel_rfl, c_gosem_cut_init⟩
theorem k_w03_SpanActs : TF (f_w03_SpanActs, r_w03_SpanActs) := ⟨Try.f3, Try.func3, by kernel_rfl, c_w03_SpanActs⟩
theorem k_w03_SpanCounts : TF (f_w03_SpanCounts, r_w03_SpanCounts) := ⟨Try.f4, Try.func4, by kernel_rfl, c_w03_SpanCounts⟩
theorem k_w03_SpanMembers : TF (f_w03_SpanMembers, r_w03_SpanMembers) := ⟨Try.f5, Try.func5, by kernel_rfl, c_w03_SpanMembers⟩
theorem k_w03_SpanOrder : TF (f_w03_SpanOrder, r_w03_SpanOrder) := ⟨Try.f6, Try.func6, by kernel_rfl, c_w03_SpanOrder⟩
theorem k_w03_SpanPlaces : TF (f_w03_SpanPlaces, r_w03_SpanPlaces) := ⟨Try.f7, Try.func7, by kernel_rfl, c_w03_SpanPlaces⟩
theorem k_w03_SpanLess : TF (f_w03_SpanLess, r_w03_SpanLess) := ⟨Try.f8, Try.func8, by kernel_rfl, c_w03_SpanLess⟩
theorem k_w03_SpanMemory : TF (f_w03_SpanMemory, r_w03_SpanMemory) := ⟨Try.f9, Try.func9, by kernel_rfl, c_w03_SpanMemory⟩
theorem k_w03_awake : TF (f_w03_awake, r_w03_awake) := ⟨Try.f10, Try.func10, by kernel_rfl, c_w03_awake⟩
theorem k_span_Put : TF (f_span_Put, r_span_Put) := ⟨Try.f11, Try.func11, by kernel_rfl, c_span_Put⟩
theorem k_r03_Put : TF (f_r03_Put, r_r03_Put) := ⟨Try.f12, Try.func12, by kernel_rfl, c_r03_Put⟩
theorem k_w03_same : TF (f_w03_same, r_w03_same) := ⟨Try.f13, Try.func13, by kernel_rfl, c_w03_same⟩
theorem k_span_Sound : TF (f_span_Sound, r_span_Sound) := ⟨Try.f14, Try.func14, by kernel_rfl, c_span_Sound⟩
theorem k_r03_Sound : TF (f_r03_Sound, r_r03_Sound) := ⟨Try.f15, Try.func15, by kernel_rfl, c_r03_Sound⟩
theorem k_span_Drop : TF (f_span_Drop, r_span_Drop) := ⟨Try.f16, Try.func16, by kernel_rfl, c_span_Drop⟩
theorem k_r03_Drop : TF (f_r03_Drop, r_r03_Drop) := ⟨Try.f17, Try.func17, by kernel_rfl, c_r03_Drop⟩
theorem k_span_Less : TF (f_span_Less, r_span_Less) := ⟨Try.f18, Try.func18, by kernel_rfl, c_span_Less⟩
theorem k_r03_Less : TF (f_r03_Less, r_r03_Less) := ⟨Try.f19, Try.func19, by kernel_rfl, c_r03_Less⟩
theorem k_span_Count : TF (f_span_Count, r_span_Count) := ⟨Try.f20, Try.func20, by kernel_rfl, c_span_Count⟩
theorem k_r03_Count : TF (f_r03_Count, r_r03_Count) := ⟨Try.f21, Try.func21, by kernel_rfl, c_r03_Count⟩
theorem k_span_Nth : TF (f_span_Nth, r_span_Nth) := ⟨Try.f22, Try.func22, by kernel_rfl, c_span_Nth⟩
theorem k_r03_Nth : TF (f_r03_Nth, r_r03_Nth) := ⟨Try.f23, Try.func23, by kernel_rfl, c_r03_Nth⟩
theorem k_span_Has : TF (f_span_Has, r_span_Has) := ⟨Try.f24, Try.func24, by kernel_rfl, c_span_Has⟩
theorem k_r03_Has : TF (f_r03_Has, r_r03_Has) := ⟨Try.f25, Try.func25, by kernel_rfl, c_r03_Has⟩
theorem k_span_Rank : TF (f_span_Rank, r_span_Rank) := ⟨Try.f26, Try.func26, by kernel_rfl, c_span_Rank⟩
theorem k_r03_Rank : TF (f_r03_Rank, r_r03_Rank) := ⟨Try.f27, Try.func27, by kernel_rfl, c_r03_Rank⟩
theorem k_w03_built : TF (f_w03_built, r_w03_built) := ⟨Try.f28, Try.func28, by kernel_rfl, c_w03_built⟩
theorem k_addr_Cmp : TF (f_addr_Cmp, r_addr_Cmp) := ⟨Try.f29, Try.func29, by kernel_rfl, c_addr_Cmp⟩
theorem k_addr_Add : TF (f_addr_Add, r_addr_Add) := ⟨Try.f30, Try.func30, by kernel_rfl, c_addr_Add⟩
theorem k_addr_Sub : TF (f_addr_Sub, r_addr_Sub) := ⟨Try.f31, Try.func31, by kernel_rfl, c_addr_Sub⟩
theorem k_w03_in : TF (f_w03_in, r_w03_in) := ⟨Try.f32, Try.func32, by kernel_rfl, c_w03_in⟩
theorem k_w03_small : TF (f_w03_small, r_w03_small) := ⟨Try.f33, Try.func33, by kernel_rfl, c_w03_small⟩
theorem k_span_isRange : TF (f_span_isRange, r_span_isRange) := ⟨Try.f34, Try.func34, by kernel_rfl, c_span_isRange⟩
theorem k_span_apart : TF (f_span_apart, r_span_apart) := ⟨Try.f35, Try.func35, by kernel_rfl, c_span_apart⟩
theorem k_span_below : TF (f_span_below, r_span_below) := ⟨Try.f36, Try.func36, by kernel_rfl, c_span_below⟩
theorem k_slices_Concat_Range : TF (f_slices_Concat_Range, r_slices_Concat_Range) := ⟨Try.f37, Try.func37, by kernel_rfl, c_slices_Concat_Range⟩
theorem k_r03_le : TF (f_r03_le, r_r03_le) := ⟨Try.f38, Try.func38, by kernel_rfl, c_r03_le⟩
theorem k_r03_made : TF (f_r03_made, r_r03_made) := ⟨Try.f39, Try.func39, by kernel_rfl, c_r03_made⟩
theorem k_r03_next : TF (f_r03_next, r_r03_next) := ⟨Try.f40, Try.func40, by kernel_rfl, c_r03_next⟩
theorem k_span_one : TF (f_span_one, r_span_one) := ⟨Try.f41, Try.func41, by kernel_rfl, c_span_one⟩
theorem k_slices_Clone_Range : TF (f_slices_Clone_Range, r_slices_Clone_Range) := ⟨Try.f42, Try.func42, by kernel_rfl, c_slices_Clone_Range⟩
theorem k_r01_Add : TF (f_r01_Add, r_r01_Add) := ⟨Try.f43, Try.func43, by kernel_rfl, c_r01_Add⟩
theorem k_r03_size : TF (f_r03_size, r_r03_size) := ⟨Try.f44, Try.func44, by kernel_rfl, c_r03_size⟩
theorem k_r01_Sub : TF (f_r01_Sub, r_r01_Sub) := ⟨Try.f45, Try.func45, by kernel_rfl, c_r01_Sub⟩
theorem k_r03_ahead : TF (f_r03_ahead, r_r03_ahead) := ⟨Try.f46, Try.func46, by kernel_rfl, c_r03_ahead⟩
theorem k_slices_ContainsFunc_Range : TF (f_slices_ContainsFunc_Range, r_slices_ContainsFunc_Range) := ⟨Try.f47, Try.func47, by kernel_rfl, c_slices_ContainsFunc_Range⟩
theorem k_span_Has_1 : TF (f_span_Has_1, r_span_Has_1) := ⟨Try.f48, Try.func48, by kernel_rfl, c_span_Has_1⟩
theorem k_r03_in : TF (f_r03_in, r_r03_in) := ⟨Try.f49, Try.func49, by kernel_rfl, c_r03_in⟩
theorem k_cmp_Or_int : TF (f_cmp_Or_int, r_cmp_Or_int) := ⟨Try.f50, Try.func50, by kernel_rfl, c_cmp_Or_int⟩
theorem k_cmp_Compare_uint64 : TF (f_cmp_Compare_uint64, r_cmp_Compare_uint64) := ⟨Try.f51, Try.func51, by kernel_rfl, c_cmp_Compare_uint64⟩
theorem k_slices_Grow_Range : TF (f_slices_Grow_Range, r_slices_Grow_Range) := ⟨Try.f54, Try.func54, by kernel_rfl, c_slices_Grow_Range⟩
theorem k_r01_Cmp : TF (f_r01_Cmp, r_r01_Cmp) := ⟨Try.f55, Try.func55, by kernel_rfl, c_r01_Cmp⟩
theorem k_r03_edges : TF (f_r03_edges, r_r03_edges) := ⟨Try.f56, Try.func56, by kernel_rfl, c_r03_edges⟩
theorem k_r01_bit : TF (f_r01_bit, r_r01_bit) := ⟨Try.f57, Try.func57, by kernel_rfl, c_r01_bit⟩
theorem k_r01_with : TF (f_r01_with, r_r01_with) := ⟨Try.f58, Try.func58, by kernel_rfl, c_r01_with⟩
theorem k_slices_IndexFunc_Range : TF (f_slices_IndexFunc_Range, r_slices_IndexFunc_Range) := ⟨Try.f59, Try.func59, by kernel_rfl, c_slices_IndexFunc_Range⟩
theorem k_cmp_isNaN_uint64 : TF (f_cmp_isNaN_uint64, r_cmp_isNaN_uint64) := ⟨Try.f60, Try.func60, by kernel_rfl, c_cmp_isNaN_uint64⟩
theorem k_r03_with : TF (f_r03_with, r_r03_with) := ⟨Try.f61, Try.func61, by kernel_rfl, c_r03_with⟩
theorem tbl_ok : ∀ x ∈ tbl, TF x := by
  unfold tbl
  simp only [List.forall_mem_cons]
  exact ⟨k_gosem_cut_init, k_w03_SpanActs, k_w03_SpanCounts, k_w03_SpanMembers, k_w03_SpanOrder, k_w03_SpanPlaces, k_w03_SpanLess, k_w03_SpanMemory, k_w03_awake, k_span_Put, k_r03_Put, k_w03_same, k_span_Sound, k_r03_Sound, k_span_Drop, k_r03_Drop, k_span_Less, k_r03_Less, k_span_Count, k_r03_Count, k_span_Nth, k_r03_Nth, k_span_Has, k_r03_Has, k_span_Rank, k_r03_Rank, k_w03_built, k_addr_Cmp, k_addr_Add, k_addr_Sub, k_w03_in, k_w03_small, k_span_isRange, k_span_apart, k_span_below, k_slices_Concat_Range, k_r03_le, k_r03_made, k_r03_next, k_span_one, k_slices_Clone_Range, k_r01_Add, k_r03_size, k_r01_Sub, k_r03_ahead, k_slices_ContainsFunc_Range, k_span_Has_1, k_r03_in, k_cmp_Or_int, k_cmp_Compare_uint64, k_slices_Grow_Range, k_r01_Cmp, k_r03_edges, k_r01_bit, k_r01_with, k_slices_IndexFunc_Range, k_cmp_isNaN_uint64, k_r03_with, by simp⟩
theorem tok : TOK Try.prog ex0 T := ⟨fun f F h => (tbl_ok _ (lookup_mem h)).ok⟩
theorem exok : ExOK Try.prog ex0 := ⟨fun f h => by
    cases h; exact ⟨Try.f52, Try.func52, by kernel_rfl, by kernel_rfl, by kernel_rfl, by kernel_rfl⟩, fun f h => by
    cases h; exact ⟨Try.f53, Try.func53, by kernel_rfl, by kernel_rfl, by kernel_rfl, by kernel_rfl⟩⟩
theorem mixed : Try.prog.follows .mixedOrders = true := by kernel_rfl
theorem sound : XS Try.prog (Run T) := run_sound exok mixed tok
end Go.Ev
