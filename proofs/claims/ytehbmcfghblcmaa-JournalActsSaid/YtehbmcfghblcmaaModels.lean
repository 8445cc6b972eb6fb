import Derived.Test.YtehbmcfghblcmaaAl2
import Derived.Test.YtehbmcfghblcmaaProg
import Derived.KernelRfl
/- Models of the program's functions: each the plain proposition that its code comes to (proof: by the kernel). Printed by a program of this session's (gen.py). -/
set_option linter.unusedVariables false
set_option maxRecDepth 100000
namespace Go.Proofs.Try
open Go Go.Al
def tys : Tys := [(0, ⟨.tup, .un, 0, false⟩),
 (3, ⟨.k, .i, 8, true⟩),
 (4, ⟨.k, .b, 1, true⟩),
 (5, ⟨.k, .u8, 1, true⟩),
 (9, ⟨.str, .s, 16, true⟩),
 (22, ⟨.slice 34, .sl, 24, false⟩),
 (24, ⟨.ptr, .p, 8, false⟩),
 (25, ⟨.k, .i, 8, true⟩),
 (26, ⟨.tup, (.tp (.pr .p (.pr .i .un))), 0, false⟩),
 (28, ⟨.ptr, .p, 8, false⟩),
 (29, ⟨.tup, (.tp (.pr .p (.pr .sl (.pr .i .un)))), 0, false⟩),
 (34, ⟨.struct [(0, 3), (1, 9)], (.ag (.pr .i (.pr .s .un))), 24, true⟩),
 (39, ⟨.slice 5, .sl, 24, false⟩),
 (43, ⟨.slice 51, .sl, 24, false⟩),
 (44, ⟨.ptr, .p, 8, false⟩),
 (45, ⟨.tup, (.tp (.pr .p (.pr .i .un))), 0, false⟩),
 (47, ⟨.ptr, .p, 8, false⟩),
 (48, ⟨.tup, (.tp (.pr .p (.pr .p (.pr .b .un)))), 0, false⟩),
 (51, ⟨.struct [(0, 3), (1, 34), (3, 3), (4, 3), (5, 9)], (.ag (.pr .i (.pr (.ag (.pr .i (.pr .s .un))) (.pr .i (.pr .i (.pr .s .un)))))), 64, true⟩),
 (56, ⟨.tup, (.tp (.pr .s (.pr .i .un))), 0, false⟩),
 (58, ⟨.tup, (.tp (.pr .s (.pr .i .un))), 0, false⟩),
 (62, ⟨.array 32 5, (.ar 32 .u8), 32, true⟩),
 (67, ⟨.tup, (.tp (.pr (.ar 32 .u8) (.pr .i .un))), 0, false⟩),
 (70, ⟨.slice 9, .sl, 24, false⟩),
 (73, ⟨.map 3 9, .m, 8, false⟩),
 (75, ⟨.struct [(0, 70), (1, 73)], (.ag (.pr .sl (.pr .m .un))), 32, false⟩),
 (77, ⟨.struct [(0, 24), (1, 3), (2, 3), (3, 62)], (.ag (.pr .p (.pr .i (.pr .i (.pr (.ar 32 .u8) .un))))), 56, false⟩),
 (79, ⟨.fn, .f, 8, false⟩),
 (81, ⟨.tup, (.tp (.pr (.ar 32 .u8) (.pr .s (.pr .b .un)))), 0, false⟩),
 (84, ⟨.slice 3, .sl, 24, false⟩),
 (87, ⟨.fn, .f, 8, false⟩),
 (89, ⟨.slice 4, .sl, 24, false⟩),
 (91, ⟨.struct [(0, 70), (1, 70), (2, 89)], (.ag (.pr .sl (.pr .sl (.pr .sl .un)))), 72, false⟩),
 (92, ⟨.tup, (.tp (.pr .p (.pr .sl .un))), 0, false⟩),
 (95, ⟨.struct [(0, 44), (1, 3), (2, 3), (3, 9)], (.ag (.pr .p (.pr .i (.pr .i (.pr .s .un))))), 40, false⟩),
 (97, ⟨.tup, (.tp (.pr .s (.pr .b .un))), 0, false⟩),
 (99, ⟨.k, .u64, 8, true⟩),
 (100, ⟨.tup, (.tp (.pr .u64 (.pr .u64 .un))), 0, false⟩),
 (103, ⟨.tup, (.tp (.pr (.ag (.pr .i (.pr .s .un))) (.pr .b .un))), 0, false⟩),
 (105, ⟨.tup, (.tp (.pr .s (.pr .s (.pr .b .un)))), 0, false⟩),
 (107, ⟨.tup, (.tp (.pr (.ar 32 .u8) (.pr .i .un))), 0, false⟩),
 (111, ⟨.k, .u32, 4, true⟩),
 (112, ⟨.array 8 111, (.ar 8 .u32), 32, true⟩),
 (116, ⟨.k, .u64, 8, true⟩),
 (117, ⟨.tup, (.tp (.pr .u64 (.pr .u64 .un))), 0, false⟩),
 (120, ⟨.ptr, .p, 8, false⟩),
 (122, ⟨.tup, (.tp (.pr .i (.pr .i .un))), 0, false⟩),
 (124, ⟨.ptr, .p, 8, false⟩),
 (129, ⟨.ptr, .p, 8, false⟩),
 (132, ⟨.fn, .f, 8, false⟩),
 (139, ⟨.array 64 111, (.ar 64 .u32), 256, true⟩),
 (142, ⟨.struct [(0, 9)], (.ag (.pr .s .un)), 16, true⟩),
 (145, ⟨.struct [(0, 39)], (.ag (.pr .sl .un)), 24, false⟩),
 (148, ⟨.struct [(0, 112), (8, 39), (9, 3)], (.ag (.pr (.ar 8 .u32) (.pr .sl (.pr .i .un)))), 64, false⟩),
 (152, ⟨.k, .i, 8, true⟩),
 (153, ⟨.tup, (.tp (.pr .i (.pr .i .un))), 0, false⟩),
 (157, ⟨.tup, (.tp (.pr .i (.pr .b .un))), 0, false⟩),
 (163, ⟨.k, .u64, 8, true⟩),
 (170, ⟨.tup, (.tp (.pr .i (.pr .i .un))), 0, false⟩)]
theorem chk : chkTys Try.prog tys tys = true := by kernel_rfl
theorem tysOk : TysOk Try.prog tys := tysOk_of_chk chk
theorem tysPl : ∀ t ti, Tys.get tys t = some ti → ti.plain = true → plainOk Try.prog tys t ti = true := plainOk_of_chk chk
theorem follows : Try.prog.follows .mixedOrders = true := by kernel_rfl
abbrev t_ : Nat := 0
abbrev t_int : Nat := 3
abbrev t_bool : Nat := 4
abbrev t_uint8 : Nat := 5
abbrev t_string : Nat := 9
abbrev t_s_api_Record : Nat := 22
abbrev t_p_disk_Disk : Nat := 24
abbrev t_api_Errno : Nat := 25
abbrev t_p_disk_Disk_api_Errno : Nat := 26
abbrev t_p_journal_Journal : Nat := 28
abbrev t_p_journal_Journal_s_api_Record_api_Errno : Nat := 29
abbrev t_api_Record : Nat := 34
abbrev t_s_uint8 : Nat := 39
abbrev t_s_almonrylaw8_Act : Nat := 43
abbrev t_p_almonryref7_Disk : Nat := 44
abbrev t_p_almonryref7_Disk_int : Nat := 45
abbrev t_p_almonryref7_Journal : Nat := 47
abbrev t_p_journal_Journal_p_almonryref7_Journal_bool : Nat := 48
abbrev t_almonrylaw8_Act : Nat := 51
abbrev t_string_api_Errno : Nat := 56
abbrev t_string_int : Nat := 58
abbrev t_api_Hash : Nat := 62
abbrev t_api_Hash_int : Nat := 67
abbrev t_s_string : Nat := 70
abbrev t_map_int_string : Nat := 73
abbrev t_disk_Disk : Nat := 75
abbrev t_journal_Journal : Nat := 77
abbrev t_api_Record_79 : Nat := 79
abbrev t_api_Hash_string_bool : Nat := 81
abbrev t_s_int : Nat := 84
abbrev t_iter_Seq_int : Nat := 87
abbrev t_s_bool : Nat := 89
abbrev t_almonryref7_Disk : Nat := 91
abbrev t_p_almonryref7_Journal_s_api_Record : Nat := 92
abbrev t_almonryref7_Journal : Nat := 95
abbrev t_string_bool : Nat := 97
abbrev t_uint : Nat := 99
abbrev t_uint_uint : Nat := 100
abbrev t_api_Record_bool : Nat := 103
abbrev t_string_string_bool : Nat := 105
abbrev t_api_Hash_api_Errno : Nat := 107
abbrev t_uint32 : Nat := 111
abbrev t_8_uint32 : Nat := 112
abbrev t_uint64 : Nat := 116
abbrev t_uint64_uint64 : Nat := 117
abbrev t_p_wire_Reader : Nat := 120
abbrev t_int_api_Errno : Nat := 122
abbrev t_p_wire_Writer : Nat := 124
abbrev t_p_sha_Digest : Nat := 129
abbrev t_iter_Seq_string : Nat := 132
abbrev t_64_uint32 : Nat := 139
abbrev t_wire_Reader : Nat := 142
abbrev t_wire_Writer : Nat := 145
abbrev t_sha_Digest : Nat := 148
abbrev t_slices_sortedHint : Nat := 152
abbrev t_int_slices_sortedHint : Nat := 153
abbrev t_int_bool : Nat := 157
abbrev t_slices_xorshift : Nat := 163
abbrev t_int_int : Nat := 170
abbrev bits_Mul32.n : Nat := 60
noncomputable abbrev bits_Mul32.fn : Func := Try.f60
abbrev bits_Mul64.n : Nat := 61
noncomputable abbrev bits_Mul64.fn : Func := Try.f61
abbrev bits_Mul.n : Nat := 49
noncomputable abbrev bits_Mul.fn : Func := Try.f49
abbrev slices_Repeat_s_string_string.n : Nat := 36
noncomputable abbrev slices_Repeat_s_string_string.fn : Func := Try.f36
abbrev disk_New.n : Nat := 11
noncomputable abbrev disk_New.fn : Func := Try.f11
abbrev wire_New.n : Nat := 65
noncomputable abbrev wire_New.fn : Func := Try.f65
abbrev wire_sized.n : Nat := 78
noncomputable abbrev wire_sized.fn : Func := Try.f78
abbrev wire_bytes.n : Nat := 80
noncomputable abbrev wire_bytes.fn : Func := Try.f80
abbrev wire_Writer_put.n : Nat := 81
noncomputable abbrev wire_Writer_put.fn : Func := Try.f81
abbrev wire_Writer_Num.n : Nat := 66
noncomputable abbrev wire_Writer_Num.fn : Func := Try.f66
abbrev wire_Writer_Text.n : Nat := 67
noncomputable abbrev wire_Writer_Text.fn : Func := Try.f67
abbrev wire_Writer_All.n : Nat := 68
noncomputable abbrev wire_Writer_All.fn : Func := Try.f68
abbrev journal_body.n : Nat := 52
noncomputable abbrev journal_body.fn : Func := Try.f52
abbrev sha_New.n : Nat := 69
noncomputable abbrev sha_New.fn : Func := Try.f69
abbrev tag_pieces_c1.n : Nat := 82
noncomputable abbrev tag_pieces_c1.fn : Func := Try.f82
abbrev tag_pieces.n : Nat := 70
noncomputable abbrev tag_pieces.fn : Func := Try.f70
abbrev sha_constants.n : Nat := 95
noncomputable abbrev sha_constants.fn : Func := Try.f95
abbrev bits_RotateLeft32.n : Nat := 97
noncomputable abbrev bits_RotateLeft32.fn : Func := Try.f97
abbrev sha_schedule.n : Nat := 96
noncomputable abbrev sha_schedule.fn : Func := Try.f96
abbrev sha_Digest_turn.n : Nat := 83
noncomputable abbrev sha_Digest_turn.fn : Func := Try.f83
abbrev sha_Digest_Write.n : Nat := 71
noncomputable abbrev sha_Digest_Write.fn : Func := Try.f71
abbrev sha_Digest_Sum.n : Nat := 72
noncomputable abbrev sha_Digest_Sum.fn : Func := Try.f72
abbrev tag_Sum.n : Nat := 53
noncomputable abbrev tag_Sum.fn : Func := Try.f53
abbrev journal_sealed.n : Nat := 40
noncomputable abbrev journal_sealed.fn : Func := Try.f40
abbrev journal_Journal_took.n : Nat := 42
noncomputable abbrev journal_Journal_took.fn : Func := Try.f42
abbrev disk_Disk_Read.n : Nat := 29
noncomputable abbrev disk_Disk_Read.fn : Func := Try.f29
abbrev journal_Journal_sectors.n : Nat := 62
noncomputable abbrev journal_Journal_sectors.fn : Func := Try.f62
abbrev wire_Open.n : Nat := 63
noncomputable abbrev wire_Open.fn : Func := Try.f63
abbrev wire_Reader_cut.n : Nat := 79
noncomputable abbrev wire_Reader_cut.fn : Func := Try.f79
abbrev wire_Reader_Num.n : Nat := 64
noncomputable abbrev wire_Reader_Num.fn : Func := Try.f64
abbrev journal_Journal_read.n : Nat := 51
noncomputable abbrev journal_Journal_read.fn : Func := Try.f51
abbrev journal_Journal_records_c1.n : Nat := 50
noncomputable abbrev journal_Journal_records_c1.fn : Func := Try.f50
abbrev journal_Journal_records.n : Nat := 37
noncomputable abbrev journal_Journal_records.fn : Func := Try.f37
abbrev disk_Disk_Write.n : Nat := 24
noncomputable abbrev disk_Disk_Write.fn : Func := Try.f24
abbrev disk_Disk_Sync.n : Nat := 39
noncomputable abbrev disk_Disk_Sync.fn : Func := Try.f39
abbrev disk_Disk_Sectors.n : Nat := 41
noncomputable abbrev disk_Disk_Sectors.fn : Func := Try.f41
abbrev journal_Journal_clean.n : Nat := 38
noncomputable abbrev journal_Journal_clean.fn : Func := Try.f38
abbrev journal_Open.n : Nat := 12
noncomputable abbrev journal_Open.fn : Func := Try.f12
abbrev law0_Num.n : Nat := 13
noncomputable abbrev law0_Num.fn : Func := Try.f13
abbrev journal_Journal_Sync.n : Nat := 14
noncomputable abbrev journal_Journal_Sync.fn : Func := Try.f14
abbrev journal_Journal_Append.n : Nat := 15
noncomputable abbrev journal_Journal_Append.fn : Func := Try.f15
abbrev slices_AppendSeq_s_int_int.n : Nat := 73
noncomputable abbrev slices_AppendSeq_s_int_int.fn : Func := Try.f73
abbrev slices_Collect_int.n : Nat := 54
noncomputable abbrev slices_Collect_int.fn : Func := Try.f54
abbrev cmp_isNaN_int.n : Nat := 103
noncomputable abbrev cmp_isNaN_int.fn : Func := Try.f103
abbrev cmp_Less_int.n : Nat := 90
noncomputable abbrev cmp_Less_int.fn : Func := Try.f90
abbrev slices_insertionSortOrdered_int.n : Nat := 84
noncomputable abbrev slices_insertionSortOrdered_int.fn : Func := Try.f84
abbrev slices_siftDownOrdered_int.n : Nat := 98
noncomputable abbrev slices_siftDownOrdered_int.fn : Func := Try.f98
abbrev slices_heapSortOrdered_int.n : Nat := 85
noncomputable abbrev slices_heapSortOrdered_int.fn : Func := Try.f85
abbrev bits_Len32.n : Nat := 93
noncomputable abbrev bits_Len32.fn : Func := Try.f93
abbrev bits_Len64.n : Nat := 94
noncomputable abbrev bits_Len64.fn : Func := Try.f94
abbrev bits_Len.n : Nat := 75
noncomputable abbrev bits_Len.fn : Func := Try.f75
abbrev slices_nextPowerOfTwo.n : Nat := 99
noncomputable abbrev slices_nextPowerOfTwo.fn : Func := Try.f99
abbrev slices_xorshift_Next.n : Nat := 100
noncomputable abbrev slices_xorshift_Next.fn : Func := Try.f100
abbrev slices_breakPatternsOrdered_int.n : Nat := 86
noncomputable abbrev slices_breakPatternsOrdered_int.fn : Func := Try.f86
abbrev slices_order2Ordered_int.n : Nat := 104
noncomputable abbrev slices_order2Ordered_int.fn : Func := Try.f104
abbrev slices_medianOrdered_int.n : Nat := 102
noncomputable abbrev slices_medianOrdered_int.fn : Func := Try.f102
abbrev slices_medianAdjacentOrdered_int.n : Nat := 101
noncomputable abbrev slices_medianAdjacentOrdered_int.fn : Func := Try.f101
abbrev slices_choosePivotOrdered_int.n : Nat := 87
noncomputable abbrev slices_choosePivotOrdered_int.fn : Func := Try.f87
abbrev slices_reverseRangeOrdered_int.n : Nat := 88
noncomputable abbrev slices_reverseRangeOrdered_int.fn : Func := Try.f88
abbrev slices_partialInsertionSortOrdered_int.n : Nat := 89
noncomputable abbrev slices_partialInsertionSortOrdered_int.fn : Func := Try.f89
abbrev slices_partitionEqualOrdered_int.n : Nat := 91
noncomputable abbrev slices_partitionEqualOrdered_int.fn : Func := Try.f91
abbrev slices_partitionOrdered_int.n : Nat := 92
noncomputable abbrev slices_partitionOrdered_int.fn : Func := Try.f92
abbrev slices_pdqsortOrdered_int.n : Nat := 74
noncomputable abbrev slices_pdqsortOrdered_int.fn : Func := Try.f74
abbrev slices_Sort_s_int_int.n : Nat := 55
noncomputable abbrev slices_Sort_s_int_int.fn : Func := Try.f55
abbrev slices_Sorted_int.n : Nat := 43
noncomputable abbrev slices_Sorted_int.fn : Func := Try.f43
abbrev maps_Keys_map_int_string_int_string_c1.n : Nat := 56
noncomputable abbrev maps_Keys_map_int_string_int_string_c1.fn : Func := Try.f56
abbrev maps_Keys_map_int_string_int_string.n : Nat := 44
noncomputable abbrev maps_Keys_map_int_string_int_string.fn : Func := Try.f44
abbrev disk_Disk_Crash.n : Nat := 16
noncomputable abbrev disk_Disk_Crash.fn : Func := Try.f16
abbrev law0_SameRecords.n : Nat := 17
noncomputable abbrev law0_SameRecords.fn : Func := Try.f17
abbrev journal_Journal_Used.n : Nat := 18
noncomputable abbrev journal_Journal_Used.fn : Func := Try.f18
abbrev law8_awake.n : Nat := 10
noncomputable abbrev law8_awake.fn : Func := Try.f10
abbrev law8_JournalSynced.n : Nat := 3
noncomputable abbrev law8_JournalSynced.fn : Func := Try.f3
abbrev law8_JournalFull.n : Nat := 4
noncomputable abbrev law8_JournalFull.fn : Func := Try.f4
abbrev law8_JournalGoes.n : Nat := 5
noncomputable abbrev law8_JournalGoes.fn : Func := Try.f5
abbrev law8_JournalStale.n : Nat := 6
noncomputable abbrev law8_JournalStale.fn : Func := Try.f6
abbrev ref7_NewDisk.n : Nat := 19
noncomputable abbrev ref7_NewDisk.fn : Func := Try.f19
abbrev ref1_Be.n : Nat := 35
noncomputable abbrev ref1_Be.fn : Func := Try.f35
abbrev ref1_T.n : Nat := 33
noncomputable abbrev ref1_T.fn : Func := Try.f33
abbrev ref1_rot.n : Nat := 77
noncomputable abbrev ref1_rot.fn : Func := Try.f77
abbrev ref1_block256.n : Nat := 59
noncomputable abbrev ref1_block256.fn : Func := Try.f59
abbrev ref1_Sha.n : Nat := 48
noncomputable abbrev ref1_Sha.fn : Func := Try.f48
abbrev ref1_Tag.n : Nat := 34
noncomputable abbrev ref1_Tag.fn : Func := Try.f34
abbrev ref7_seal.n : Nat := 47
noncomputable abbrev ref7_seal.fn : Func := Try.f47
abbrev ref7_Seal.n : Nat := 32
noncomputable abbrev ref7_Seal.fn : Func := Try.f32
abbrev ref7_Disk_Read.n : Nat := 30
noncomputable abbrev ref7_Disk_Read.fn : Func := Try.f30
abbrev ref7_Journal_bytes.n : Nat := 76
noncomputable abbrev ref7_Journal_bytes.fn : Func := Try.f76
abbrev ref7_Journal_next.n : Nat := 57
noncomputable abbrev ref7_Journal_next.fn : Func := Try.f57
abbrev ref7_Disk_Sync.n : Nat := 22
noncomputable abbrev ref7_Disk_Sync.fn : Func := Try.f22
abbrev ref7_Disk_Write.n : Nat := 25
noncomputable abbrev ref7_Disk_Write.fn : Func := Try.f25
abbrev ref7_Disk_Sectors.n : Nat := 46
noncomputable abbrev ref7_Disk_Sectors.fn : Func := Try.f46
abbrev ref7_Journal_clear.n : Nat := 58
noncomputable abbrev ref7_Journal_clear.fn : Func := Try.f58
abbrev ref7_OpenJournal.n : Nat := 45
noncomputable abbrev ref7_OpenJournal.fn : Func := Try.f45
abbrev law8_opened.n : Nat := 20
noncomputable abbrev law8_opened.fn : Func := Try.f20
abbrev ref7_Journal_Append.n : Nat := 21
noncomputable abbrev ref7_Journal_Append.fn : Func := Try.f21
abbrev ref7_Disk_Crash.n : Nat := 23
noncomputable abbrev ref7_Disk_Crash.fn : Func := Try.f23
abbrev ref7_Journal_Used.n : Nat := 26
noncomputable abbrev ref7_Journal_Used.fn : Func := Try.f26
abbrev disk_Disk_Dirty.n : Nat := 27
noncomputable abbrev disk_Disk_Dirty.fn : Func := Try.f27
abbrev ref7_Disk_Dirty.n : Nat := 28
noncomputable abbrev ref7_Disk_Dirty.fn : Func := Try.f28
abbrev law8_JournalActs.n : Nat := 7
noncomputable abbrev law8_JournalActs.fn : Func := Try.f7
abbrev journal_Seal.n : Nat := 31
noncomputable abbrev journal_Seal.fn : Func := Try.f31
abbrev law8_JournalSeals.n : Nat := 8
noncomputable abbrev law8_JournalSeals.fn : Func := Try.f8
abbrev law8_JournalBytes.n : Nat := 9
noncomputable abbrev law8_JournalBytes.fn : Func := Try.f9
def bits_Mul32.C (a0_x : UInt32) (a1_y : UInt32) (h : Heap) (K : UInt32 → UInt32 → Heap → Prop) : Prop := callF Try.prog 60 [Kd.u32.val a0_x, Kd.u32.val a1_y] (.tp (.pr .u32 (.pr .u32 .un))) h (fun x h => K x.1 x.2.1 h)
def bits_Mul64.C (a0_x : UInt64) (a1_y : UInt64) (h : Heap) (K : UInt64 → UInt64 → Heap → Prop) : Prop := callF Try.prog 61 [Kd.u64.val a0_x, Kd.u64.val a1_y] (.tp (.pr .u64 (.pr .u64 .un))) h (fun x h => K x.1 x.2.1 h)
def bits_Mul.C (a0_x : UInt64) (a1_y : UInt64) (h : Heap) (K : UInt64 → UInt64 → Heap → Prop) : Prop := callF Try.prog 49 [Kd.u64.val a0_x, Kd.u64.val a1_y] (.tp (.pr .u64 (.pr .u64 .un))) h (fun x h => K x.1 x.2.1 h)
def slices_Repeat_s_string_string.C (a0_x : Slc) (a1_count : Int) (h : Heap) (K : Slc → Heap → Prop) : Prop := callF Try.prog 36 [Kd.sl.val a0_x, Kd.i.val a1_count] .sl h (K)
def disk_New.C (a0_sectors : Int) (h : Heap) (K : Option Pl → Int → Heap → Prop) : Prop := callF Try.prog 11 [Kd.i.val a0_sectors] (.tp (.pr .p (.pr .i .un))) h (fun x h => K x.1 x.2.1 h)
def wire_New.C (h : Heap) (K : Option Pl → Heap → Prop) : Prop := callF Try.prog 65 [] .p h (K)
def wire_sized.C (a0_size : Int) (h : Heap) (K : Bool → Heap → Prop) : Prop := callF Try.prog 78 [Kd.i.val a0_size] .b h (K)
def wire_bytes.C (a0_x : Int) (a1_size : Int) (h : Heap) (K : ByteArray → Bool → Heap → Prop) : Prop := callF Try.prog 80 [Kd.i.val a0_x, Kd.i.val a1_size] (.tp (.pr .s (.pr .b .un))) h (fun x h => K x.1 x.2.1 h)
def wire_Writer_put.C (a0_w : Option Pl) (a1_parts : Slc) (h : Heap) (K : Int → Heap → Prop) : Prop := callF Try.prog 81 [Kd.p.val a0_w, Kd.sl.val a1_parts] .i h (K)
def wire_Writer_Num.C (a0_w : Option Pl) (a1_x : Int) (a2_size : Int) (h : Heap) (K : Int → Heap → Prop) : Prop := callF Try.prog 66 [Kd.p.val a0_w, Kd.i.val a1_x, Kd.i.val a2_size] .i h (K)
def wire_Writer_Text.C (a0_w : Option Pl) (a1_s : ByteArray) (a2_size : Int) (h : Heap) (K : Int → Heap → Prop) : Prop := callF Try.prog 67 [Kd.p.val a0_w, Kd.s.val a1_s, Kd.i.val a2_size] .i h (K)
def wire_Writer_All.C (a0_w : Option Pl) (h : Heap) (K : ByteArray → Heap → Prop) : Prop := callF Try.prog 68 [Kd.p.val a0_w] .s h (K)
def journal_body.C (a0_seq : Int) (a1_r : Kd.Ty (Kd.ag (.pr .i (.pr .s .un)))) (h : Heap) (K : ByteArray → ByteArray → Bool → Heap → Prop) : Prop := callF Try.prog 52 [Kd.i.val a0_seq, (Kd.ag (.pr .i (.pr .s .un))).val a1_r] (.tp (.pr .s (.pr .s (.pr .b .un)))) h (fun x h => K x.1 x.2.1 x.2.2.1 h)
def sha_New.C (h : Heap) (K : Option Pl → Heap → Prop) : Prop := callF Try.prog 69 [] .p h (K)
def tag_pieces_c1.C (a0_yield : Value) (c0 : Pl) (c1 : Pl) (h : Heap) (K : Heap → Prop) : Prop := callF Try.prog 82 [Kd.f.val a0_yield, Kd.p.val (some c0), Kd.p.val (some c1)] .un h (fun _ h => K h)
def tag_pieces.C (a0_tag : Int) (a1_parts : Slc) (h : Heap) (K : Value → Heap → Prop) : Prop := callF Try.prog 70 [Kd.i.val a0_tag, Kd.sl.val a1_parts] .f h (K)
def sha_constants.C (h : Heap) (K : Kd.Ty (Kd.ar 64 .u32) → Heap → Prop) : Prop := callF Try.prog 95 [] (.ar 64 .u32) h (K)
def bits_RotateLeft32.C (a0_x : UInt32) (a1_k : Int) (h : Heap) (K : UInt32 → Heap → Prop) : Prop := callF Try.prog 97 [Kd.u32.val a0_x, Kd.i.val a1_k] .u32 h (K)
def sha_schedule.C (a0_b : Slc) (h : Heap) (K : Kd.Ty (Kd.ar 64 .u32) → Heap → Prop) : Prop := callF Try.prog 96 [Kd.sl.val a0_b] (.ar 64 .u32) h (K)
def sha_Digest_turn.C (a0_d : Option Pl) (a1_b : Slc) (h : Heap) (K : Heap → Prop) : Prop := callF Try.prog 83 [Kd.p.val a0_d, Kd.sl.val a1_b] .un h (fun _ h => K h)
def sha_Digest_Write.C (a0_d : Option Pl) (a1_s : ByteArray) (h : Heap) (K : Heap → Prop) : Prop := callF Try.prog 71 [Kd.p.val a0_d, Kd.s.val a1_s] .un h (fun _ h => K h)
def sha_Digest_Sum.C (a0_d : Option Pl) (h : Heap) (K : Kd.Ty (Kd.ar 32 .u8) → Heap → Prop) : Prop := callF Try.prog 72 [Kd.p.val a0_d] (.ar 32 .u8) h (K)
def tag_Sum.C (a0_tag : Int) (a1_parts : Slc) (h : Heap) (K : Kd.Ty (Kd.ar 32 .u8) → Int → Heap → Prop) : Prop := callF Try.prog 53 [Kd.i.val a0_tag, Kd.sl.val a1_parts] (.tp (.pr (.ar 32 .u8) (.pr .i .un))) h (fun x h => K x.1 x.2.1 h)
def journal_sealed.C (a0_prev : Kd.Ty (Kd.ar 32 .u8)) (a1_seq : Int) (a2_r : Kd.Ty (Kd.ag (.pr .i (.pr .s .un)))) (h : Heap) (K : Kd.Ty (Kd.ar 32 .u8) → ByteArray → Bool → Heap → Prop) : Prop := callF Try.prog 40 [(Kd.ar 32 .u8).val a0_prev, Kd.i.val a1_seq, (Kd.ag (.pr .i (.pr .s .un))).val a2_r] (.tp (.pr (.ar 32 .u8) (.pr .s (.pr .b .un)))) h (fun x h => K x.1 x.2.1 x.2.2.1 h)
def journal_Journal_took.C (a0_j : Option Pl) (a1_h : Kd.Ty (Kd.ar 32 .u8)) (a2_many : Int) (h : Heap) (K : Heap → Prop) : Prop := callF Try.prog 42 [Kd.p.val a0_j, (Kd.ar 32 .u8).val a1_h, Kd.i.val a2_many] .un h (fun _ h => K h)
def disk_Disk_Read.C (a0_d : Option Pl) (a1_at : Int) (h : Heap) (K : ByteArray → Int → Heap → Prop) : Prop := callF Try.prog 29 [Kd.p.val a0_d, Kd.i.val a1_at] (.tp (.pr .s (.pr .i .un))) h (fun x h => K x.1 x.2.1 h)
def journal_Journal_sectors.C (a0_j : Option Pl) (a1_at : Int) (a2_many : Int) (h : Heap) (K : ByteArray → Bool → Heap → Prop) : Prop := callF Try.prog 62 [Kd.p.val a0_j, Kd.i.val a1_at, Kd.i.val a2_many] (.tp (.pr .s (.pr .b .un))) h (fun x h => K x.1 x.2.1 h)
def wire_Open.C (a0_s : ByteArray) (h : Heap) (K : Option Pl → Heap → Prop) : Prop := callF Try.prog 63 [Kd.s.val a0_s] .p h (K)
def wire_Reader_cut.C (a0_r : Option Pl) (a1_n : Int) (h : Heap) (K : ByteArray → Bool → Heap → Prop) : Prop := callF Try.prog 79 [Kd.p.val a0_r, Kd.i.val a1_n] (.tp (.pr .s (.pr .b .un))) h (fun x h => K x.1 x.2.1 h)
def wire_Reader_Num.C (a0_r : Option Pl) (a1_size : Int) (h : Heap) (K : Int → Int → Heap → Prop) : Prop := callF Try.prog 64 [Kd.p.val a0_r, Kd.i.val a1_size] (.tp (.pr .i (.pr .i .un))) h (fun x h => K x.1 x.2.1 h)
def journal_Journal_read.C (a0_j : Option Pl) (h : Heap) (K : Kd.Ty (Kd.ag (.pr .i (.pr .s .un))) → Bool → Heap → Prop) : Prop := callF Try.prog 51 [Kd.p.val a0_j] (.tp (.pr (.ag (.pr .i (.pr .s .un))) (.pr .b .un))) h (fun x h => K x.1 x.2.1 h)
def journal_Journal_records_c1.C (a0_yield : Value) (c0 : Pl) (h : Heap) (K : Heap → Prop) : Prop := callF Try.prog 50 [Kd.f.val a0_yield, Kd.p.val (some c0)] .un h (fun _ h => K h)
def journal_Journal_records.C (a0_j : Option Pl) (h : Heap) (K : Value → Heap → Prop) : Prop := callF Try.prog 37 [Kd.p.val a0_j] .f h (K)
def disk_Disk_Write.C (a0_d : Option Pl) (a1_at : Int) (a2_s : ByteArray) (h : Heap) (K : Int → Heap → Prop) : Prop := callF Try.prog 24 [Kd.p.val a0_d, Kd.i.val a1_at, Kd.s.val a2_s] .i h (K)
def disk_Disk_Sync.C (a0_d : Option Pl) (h : Heap) (K : Int → Heap → Prop) : Prop := callF Try.prog 39 [Kd.p.val a0_d] .i h (K)
def disk_Disk_Sectors.C (a0_d : Option Pl) (h : Heap) (K : Int → Heap → Prop) : Prop := callF Try.prog 41 [Kd.p.val a0_d] .i h (K)
def journal_Journal_clean.C (a0_j : Option Pl) (h : Heap) (K : Heap → Prop) : Prop := callF Try.prog 38 [Kd.p.val a0_j] .un h (fun _ h => K h)
def journal_Open.C (a0_d : Option Pl) (h : Heap) (K : Option Pl → Slc → Int → Heap → Prop) : Prop := callF Try.prog 12 [Kd.p.val a0_d] (.tp (.pr .p (.pr .sl (.pr .i .un)))) h (fun x h => K x.1 x.2.1 x.2.2.1 h)
def law0_Num.C (a0_e : Int) (h : Heap) (K : Int → Heap → Prop) : Prop := callF Try.prog 13 [Kd.i.val a0_e] .i h (K)
def journal_Journal_Sync.C (a0_j : Option Pl) (h : Heap) (K : Int → Heap → Prop) : Prop := callF Try.prog 14 [Kd.p.val a0_j] .i h (K)
def journal_Journal_Append.C (a0_j : Option Pl) (a1_r : Kd.Ty (Kd.ag (.pr .i (.pr .s .un)))) (h : Heap) (K : Int → Heap → Prop) : Prop := callF Try.prog 15 [Kd.p.val a0_j, (Kd.ag (.pr .i (.pr .s .un))).val a1_r] .i h (K)
def slices_AppendSeq_s_int_int.C (a0_s : Slc) (a1_seq : Value) (h : Heap) (K : Slc → Heap → Prop) : Prop := callF Try.prog 73 [Kd.sl.val a0_s, Kd.f.val a1_seq] .sl h (K)
def slices_Collect_int.C (a0_seq : Value) (h : Heap) (K : Slc → Heap → Prop) : Prop := callF Try.prog 54 [Kd.f.val a0_seq] .sl h (K)
def cmp_isNaN_int.C (a0_x : Int) (h : Heap) (K : Bool → Heap → Prop) : Prop := callF Try.prog 103 [Kd.i.val a0_x] .b h (K)
def cmp_Less_int.C (a0_x : Int) (a1_y : Int) (h : Heap) (K : Bool → Heap → Prop) : Prop := callF Try.prog 90 [Kd.i.val a0_x, Kd.i.val a1_y] .b h (K)
def slices_insertionSortOrdered_int.C (a0_data : Slc) (a1_a : Int) (a2_b : Int) (h : Heap) (K : Heap → Prop) : Prop := callF Try.prog 84 [Kd.sl.val a0_data, Kd.i.val a1_a, Kd.i.val a2_b] .un h (fun _ h => K h)
def slices_siftDownOrdered_int.C (a0_data : Slc) (a1_lo : Int) (a2_hi : Int) (a3_first : Int) (h : Heap) (K : Heap → Prop) : Prop := callF Try.prog 98 [Kd.sl.val a0_data, Kd.i.val a1_lo, Kd.i.val a2_hi, Kd.i.val a3_first] .un h (fun _ h => K h)
def slices_heapSortOrdered_int.C (a0_data : Slc) (a1_a : Int) (a2_b : Int) (h : Heap) (K : Heap → Prop) : Prop := callF Try.prog 85 [Kd.sl.val a0_data, Kd.i.val a1_a, Kd.i.val a2_b] .un h (fun _ h => K h)
def bits_Len32.C (a0_x : UInt32) (h : Heap) (K : Int → Heap → Prop) : Prop := callF Try.prog 93 [Kd.u32.val a0_x] .i h (K)
def bits_Len64.C (a0_x : UInt64) (h : Heap) (K : Int → Heap → Prop) : Prop := callF Try.prog 94 [Kd.u64.val a0_x] .i h (K)
def bits_Len.C (a0_x : UInt64) (h : Heap) (K : Int → Heap → Prop) : Prop := callF Try.prog 75 [Kd.u64.val a0_x] .i h (K)
def slices_nextPowerOfTwo.C (a0_length : Int) (h : Heap) (K : UInt64 → Heap → Prop) : Prop := callF Try.prog 99 [Kd.i.val a0_length] .u64 h (K)
def slices_xorshift_Next.C (a0_r : Option Pl) (h : Heap) (K : UInt64 → Heap → Prop) : Prop := callF Try.prog 100 [Kd.p.val a0_r] .u64 h (K)
def slices_breakPatternsOrdered_int.C (a0_data : Slc) (a1_a : Int) (a2_b : Int) (h : Heap) (K : Heap → Prop) : Prop := callF Try.prog 86 [Kd.sl.val a0_data, Kd.i.val a1_a, Kd.i.val a2_b] .un h (fun _ h => K h)
def slices_order2Ordered_int.C (a0_data : Slc) (a1_a : Int) (a2_b : Int) (a3_swaps : Option Pl) (h : Heap) (K : Int → Int → Heap → Prop) : Prop := callF Try.prog 104 [Kd.sl.val a0_data, Kd.i.val a1_a, Kd.i.val a2_b, Kd.p.val a3_swaps] (.tp (.pr .i (.pr .i .un))) h (fun x h => K x.1 x.2.1 h)
def slices_medianOrdered_int.C (a0_data : Slc) (a1_a : Int) (a2_b : Int) (a3_c : Int) (a4_swaps : Option Pl) (h : Heap) (K : Int → Heap → Prop) : Prop := callF Try.prog 102 [Kd.sl.val a0_data, Kd.i.val a1_a, Kd.i.val a2_b, Kd.i.val a3_c, Kd.p.val a4_swaps] .i h (K)
def slices_medianAdjacentOrdered_int.C (a0_data : Slc) (a1_a : Int) (a2_swaps : Option Pl) (h : Heap) (K : Int → Heap → Prop) : Prop := callF Try.prog 101 [Kd.sl.val a0_data, Kd.i.val a1_a, Kd.p.val a2_swaps] .i h (K)
def slices_choosePivotOrdered_int.C (a0_data : Slc) (a1_a : Int) (a2_b : Int) (h : Heap) (K : Int → Int → Heap → Prop) : Prop := callF Try.prog 87 [Kd.sl.val a0_data, Kd.i.val a1_a, Kd.i.val a2_b] (.tp (.pr .i (.pr .i .un))) h (fun x h => K x.1 x.2.1 h)
def slices_reverseRangeOrdered_int.C (a0_data : Slc) (a1_a : Int) (a2_b : Int) (h : Heap) (K : Heap → Prop) : Prop := callF Try.prog 88 [Kd.sl.val a0_data, Kd.i.val a1_a, Kd.i.val a2_b] .un h (fun _ h => K h)
def slices_partialInsertionSortOrdered_int.C (a0_data : Slc) (a1_a : Int) (a2_b : Int) (h : Heap) (K : Bool → Heap → Prop) : Prop := callF Try.prog 89 [Kd.sl.val a0_data, Kd.i.val a1_a, Kd.i.val a2_b] .b h (K)
def slices_partitionEqualOrdered_int.C (a0_data : Slc) (a1_a : Int) (a2_b : Int) (a3_pivot : Int) (h : Heap) (K : Int → Heap → Prop) : Prop := callF Try.prog 91 [Kd.sl.val a0_data, Kd.i.val a1_a, Kd.i.val a2_b, Kd.i.val a3_pivot] .i h (K)
def slices_partitionOrdered_int.C (a0_data : Slc) (a1_a : Int) (a2_b : Int) (a3_pivot : Int) (h : Heap) (K : Int → Bool → Heap → Prop) : Prop := callF Try.prog 92 [Kd.sl.val a0_data, Kd.i.val a1_a, Kd.i.val a2_b, Kd.i.val a3_pivot] (.tp (.pr .i (.pr .b .un))) h (fun x h => K x.1 x.2.1 h)
def slices_pdqsortOrdered_int.C (a0_data : Slc) (a1_a : Int) (a2_b : Int) (a3_limit : Int) (h : Heap) (K : Heap → Prop) : Prop := callF Try.prog 74 [Kd.sl.val a0_data, Kd.i.val a1_a, Kd.i.val a2_b, Kd.i.val a3_limit] .un h (fun _ h => K h)
def slices_Sort_s_int_int.C (a0_x : Slc) (h : Heap) (K : Heap → Prop) : Prop := callF Try.prog 55 [Kd.sl.val a0_x] .un h (fun _ h => K h)
def slices_Sorted_int.C (a0_seq : Value) (h : Heap) (K : Slc → Heap → Prop) : Prop := callF Try.prog 43 [Kd.f.val a0_seq] .sl h (K)
def maps_Keys_map_int_string_int_string_c1.C (a0_yield : Value) (c0 : Pl) (h : Heap) (K : Heap → Prop) : Prop := callF Try.prog 56 [Kd.f.val a0_yield, Kd.p.val (some c0)] .un h (fun _ h => K h)
def maps_Keys_map_int_string_int_string.C (a0_m : Option Nat) (h : Heap) (K : Value → Heap → Prop) : Prop := callF Try.prog 44 [Kd.m.val a0_m] .f h (K)
def disk_Disk_Crash.C (a0_d : Option Pl) (a1_keep : Int) (h : Heap) (K : Int → Heap → Prop) : Prop := callF Try.prog 16 [Kd.p.val a0_d, Kd.i.val a1_keep] .i h (K)
def law0_SameRecords.C (a0_a : Slc) (a1_b : Slc) (h : Heap) (K : Bool → Heap → Prop) : Prop := callF Try.prog 17 [Kd.sl.val a0_a, Kd.sl.val a1_b] .b h (K)
def journal_Journal_Used.C (a0_j : Option Pl) (h : Heap) (K : Int → Heap → Prop) : Prop := callF Try.prog 18 [Kd.p.val a0_j] .i h (K)
def law8_awake.C (h : Heap) (K : Bool → Heap → Prop) : Prop := callF Try.prog 10 [] .b h (K)
def law8_JournalSynced.C (a0_synced : Slc) (a1_loose : Slc) (a2_keep : Int) (h : Heap) (K : Bool → Heap → Prop) : Prop := callF Try.prog 3 [Kd.sl.val a0_synced, Kd.sl.val a1_loose, Kd.i.val a2_keep] .b h (K)
def law8_JournalFull.C (a0_sectors : Int) (a1_size : Int) (h : Heap) (K : Bool → Heap → Prop) : Prop := callF Try.prog 4 [Kd.i.val a0_sectors, Kd.i.val a1_size] .b h (K)
def law8_JournalGoes.C (a0_first : Slc) (a1_then : Slc) (h : Heap) (K : Bool → Heap → Prop) : Prop := callF Try.prog 5 [Kd.sl.val a0_first, Kd.sl.val a1_then] .b h (K)
def law8_JournalStale.C (a0_kept : Slc) (a1_lost : Slc) (a2_again : Slc) (a3_keep : Int) (h : Heap) (K : Bool → Heap → Prop) : Prop := callF Try.prog 6 [Kd.sl.val a0_kept, Kd.sl.val a1_lost, Kd.sl.val a2_again, Kd.i.val a3_keep] .b h (K)
def ref7_NewDisk.C (a0_sectors : Int) (h : Heap) (K : Option Pl → Int → Heap → Prop) : Prop := callF Try.prog 19 [Kd.i.val a0_sectors] (.tp (.pr .p (.pr .i .un))) h (fun x h => K x.1 x.2.1 h)
def ref1_Be.C (a0_x : Int) (a1_size : Int) (h : Heap) (K : ByteArray → Heap → Prop) : Prop := callF Try.prog 35 [Kd.i.val a0_x, Kd.i.val a1_size] .s h (K)
def ref1_T.C (a0_h : Kd.Ty (Kd.ar 32 .u8)) (h : Heap) (K : ByteArray → Heap → Prop) : Prop := callF Try.prog 33 [(Kd.ar 32 .u8).val a0_h] .s h (K)
def ref1_rot.C (a0_x : UInt32) (a1_k : Int) (h : Heap) (K : UInt32 → Heap → Prop) : Prop := callF Try.prog 77 [Kd.u32.val a0_x, Kd.i.val a1_k] .u32 h (K)
def ref1_block256.C (a0_h : Kd.Ty (Kd.ar 8 .u32)) (a1_s : ByteArray) (h : Heap) (K : Kd.Ty (Kd.ar 8 .u32) → Heap → Prop) : Prop := callF Try.prog 59 [(Kd.ar 8 .u32).val a0_h, Kd.s.val a1_s] (.ar 8 .u32) h (K)
def ref1_Sha.C (a0_s : ByteArray) (h : Heap) (K : Kd.Ty (Kd.ar 32 .u8) → Heap → Prop) : Prop := callF Try.prog 48 [Kd.s.val a0_s] (.ar 32 .u8) h (K)
def ref1_Tag.C (a0_tag : Int) (a1_parts : Slc) (h : Heap) (K : Kd.Ty (Kd.ar 32 .u8) → Int → Heap → Prop) : Prop := callF Try.prog 34 [Kd.i.val a0_tag, Kd.sl.val a1_parts] (.tp (.pr (.ar 32 .u8) (.pr .i .un))) h (fun x h => K x.1 x.2.1 h)
def ref7_seal.C (a0_prev : ByteArray) (a1_seq : Int) (a2_r : Kd.Ty (Kd.ag (.pr .i (.pr .s .un)))) (h : Heap) (K : ByteArray → Heap → Prop) : Prop := callF Try.prog 47 [Kd.s.val a0_prev, Kd.i.val a1_seq, (Kd.ag (.pr .i (.pr .s .un))).val a2_r] .s h (K)
def ref7_Seal.C (a0_prev : ByteArray) (a1_seq : Int) (a2_r : Kd.Ty (Kd.ag (.pr .i (.pr .s .un)))) (h : Heap) (K : ByteArray → Int → Heap → Prop) : Prop := callF Try.prog 32 [Kd.s.val a0_prev, Kd.i.val a1_seq, (Kd.ag (.pr .i (.pr .s .un))).val a2_r] (.tp (.pr .s (.pr .i .un))) h (fun x h => K x.1 x.2.1 h)
def ref7_Disk_Read.C (a0_d : Option Pl) (a1_at : Int) (h : Heap) (K : ByteArray → Int → Heap → Prop) : Prop := callF Try.prog 30 [Kd.p.val a0_d, Kd.i.val a1_at] (.tp (.pr .s (.pr .i .un))) h (fun x h => K x.1 x.2.1 h)
def ref7_Journal_bytes.C (a0_j : Option Pl) (a1_at : Int) (a2_many : Int) (h : Heap) (K : ByteArray → Bool → Heap → Prop) : Prop := callF Try.prog 76 [Kd.p.val a0_j, Kd.i.val a1_at, Kd.i.val a2_many] (.tp (.pr .s (.pr .b .un))) h (fun x h => K x.1 x.2.1 h)
def ref7_Journal_next.C (a0_j : Option Pl) (h : Heap) (K : Kd.Ty (Kd.ag (.pr .i (.pr .s .un))) → Bool → Heap → Prop) : Prop := callF Try.prog 57 [Kd.p.val a0_j] (.tp (.pr (.ag (.pr .i (.pr .s .un))) (.pr .b .un))) h (fun x h => K x.1 x.2.1 h)
def ref7_Disk_Sync.C (a0_d : Option Pl) (h : Heap) (K : Heap → Prop) : Prop := callF Try.prog 22 [Kd.p.val a0_d] .un h (fun _ h => K h)
def ref7_Disk_Write.C (a0_d : Option Pl) (a1_at : Int) (a2_s : ByteArray) (h : Heap) (K : Int → Heap → Prop) : Prop := callF Try.prog 25 [Kd.p.val a0_d, Kd.i.val a1_at, Kd.s.val a2_s] .i h (K)
def ref7_Disk_Sectors.C (a0_d : Option Pl) (h : Heap) (K : Int → Heap → Prop) : Prop := callF Try.prog 46 [Kd.p.val a0_d] .i h (K)
def ref7_Journal_clear.C (a0_j : Option Pl) (h : Heap) (K : Heap → Prop) : Prop := callF Try.prog 58 [Kd.p.val a0_j] .un h (fun _ h => K h)
def ref7_OpenJournal.C (a0_d : Option Pl) (h : Heap) (K : Option Pl → Slc → Heap → Prop) : Prop := callF Try.prog 45 [Kd.p.val a0_d] (.tp (.pr .p (.pr .sl .un))) h (fun x h => K x.1 x.2.1 h)
def law8_opened.C (a0_d : Option Pl) (a1_r : Option Pl) (h : Heap) (K : Option Pl → Option Pl → Bool → Heap → Prop) : Prop := callF Try.prog 20 [Kd.p.val a0_d, Kd.p.val a1_r] (.tp (.pr .p (.pr .p (.pr .b .un)))) h (fun x h => K x.1 x.2.1 x.2.2.1 h)
def ref7_Journal_Append.C (a0_j : Option Pl) (a1_r : Kd.Ty (Kd.ag (.pr .i (.pr .s .un)))) (h : Heap) (K : Int → Heap → Prop) : Prop := callF Try.prog 21 [Kd.p.val a0_j, (Kd.ag (.pr .i (.pr .s .un))).val a1_r] .i h (K)
def ref7_Disk_Crash.C (a0_d : Option Pl) (a1_keep : Int) (h : Heap) (K : Heap → Prop) : Prop := callF Try.prog 23 [Kd.p.val a0_d, Kd.i.val a1_keep] .un h (fun _ h => K h)
def ref7_Journal_Used.C (a0_j : Option Pl) (h : Heap) (K : Int → Heap → Prop) : Prop := callF Try.prog 26 [Kd.p.val a0_j] .i h (K)
def disk_Disk_Dirty.C (a0_d : Option Pl) (h : Heap) (K : Int → Heap → Prop) : Prop := callF Try.prog 27 [Kd.p.val a0_d] .i h (K)
def ref7_Disk_Dirty.C (a0_d : Option Pl) (h : Heap) (K : Int → Heap → Prop) : Prop := callF Try.prog 28 [Kd.p.val a0_d] .i h (K)
def law8_JournalActs.C (a0_sectors : Int) (a1_acts : Slc) (h : Heap) (K : Bool → Heap → Prop) : Prop := callF Try.prog 7 [Kd.i.val a0_sectors, Kd.sl.val a1_acts] .b h (K)
def journal_Seal.C (a0_prev : Kd.Ty (Kd.ar 32 .u8)) (a1_seq : Int) (a2_r : Kd.Ty (Kd.ag (.pr .i (.pr .s .un)))) (h : Heap) (K : ByteArray → Int → Heap → Prop) : Prop := callF Try.prog 31 [(Kd.ar 32 .u8).val a0_prev, Kd.i.val a1_seq, (Kd.ag (.pr .i (.pr .s .un))).val a2_r] (.tp (.pr .s (.pr .i .un))) h (fun x h => K x.1 x.2.1 h)
def law8_JournalSeals.C (a0_prev : Kd.Ty (Kd.ar 32 .u8)) (a1_seq : Int) (a2_r : Kd.Ty (Kd.ag (.pr .i (.pr .s .un)))) (h : Heap) (K : Bool → Heap → Prop) : Prop := callF Try.prog 8 [(Kd.ar 32 .u8).val a0_prev, Kd.i.val a1_seq, (Kd.ag (.pr .i (.pr .s .un))).val a2_r] .b h (K)
def law8_JournalBytes.C (a0_prev : Kd.Ty (Kd.ar 32 .u8)) (a1_seq : Int) (a2_kind : Int) (a3_data : ByteArray) (h : Heap) (K : Bool → Heap → Prop) : Prop := callF Try.prog 9 [(Kd.ar 32 .u8).val a0_prev, Kd.i.val a1_seq, Kd.i.val a2_kind, Kd.s.val a3_data] .b h (K)
def bits_Mul32.m (a0_x : UInt32) (a1_y : UInt32) (h : Heap) (K : UInt32 → UInt32 → Heap → Prop) : Prop :=
  0 ≤ (((32 : UInt64).toNat : Int) : Int) ∧
  K (u32I ((shU64 .shr ((u64I (a0_x.toNat : Int)) * (u64I (a1_y.toNat : Int))) ((32 : UInt64).toNat : Int)).toNat : Int)) (u32I (((u64I (a0_x.toNat : Int)) * (u64I (a1_y.toNat : Int))).toNat : Int)) h
theorem bits_Mul32.e (a0_x : UInt32) (a1_y : UInt32) (h : Heap) (K : UInt32 → UInt32 → Heap → Prop) : bits_Mul32.m a0_x a1_y h K = fnC Try.prog tys [] Try.f60 [⟨.u32, a0_x⟩, ⟨.u32, a1_y⟩] (.tp (.pr .u32 (.pr .u32 .un))) h (fun x h => K x.1 x.2.1 h) := by kernel_rfl
theorem bits_Mul32.c (a0_x : UInt32) (a1_y : UInt32) {h : Heap} {K : UInt32 → UInt32 → Heap → Prop} (hm : bits_Mul32.m a0_x a1_y h K) : bits_Mul32.C a0_x a1_y h K := fn_sound (an := []) tysOk tysPl follows (f := 60) (fn := Try.f60) (args := [⟨.u32, a0_x⟩, ⟨.u32, a1_y⟩]) (by kernel_rfl) (by kernel_rfl) ((bits_Mul32.e a0_x a1_y h K) ▸ hm)
def bits_Mul64.m (a0_x : UInt64) (a1_y : UInt64) (h : Heap) (K : UInt64 → UInt64 → Heap → Prop) : Prop :=
  0 ≤ (((32 : UInt64).toNat : Int) : Int) ∧
  0 ≤ (((32 : UInt64).toNat : Int) : Int) ∧
  0 ≤ (((32 : UInt64).toNat : Int) : Int) ∧
  0 ≤ (((32 : UInt64).toNat : Int) : Int) ∧
  0 ≤ (((32 : UInt64).toNat : Int) : Int) ∧
  K ((((shU64 .shr a0_x ((32 : UInt64).toNat : Int)) * (shU64 .shr a1_y ((32 : UInt64).toNat : Int))) + (shU64 .shr (((shU64 .shr a0_x ((32 : UInt64).toNat : Int)) * (a1_y &&& 4294967295)) + (shU64 .shr ((a0_x &&& 4294967295) * (a1_y &&& 4294967295)) ((32 : UInt64).toNat : Int))) ((32 : UInt64).toNat : Int))) + (shU64 .shr (((((shU64 .shr a0_x ((32 : UInt64).toNat : Int)) * (a1_y &&& 4294967295)) + (shU64 .shr ((a0_x &&& 4294967295) * (a1_y &&& 4294967295)) ((32 : UInt64).toNat : Int))) &&& 4294967295) + ((a0_x &&& 4294967295) * (shU64 .shr a1_y ((32 : UInt64).toNat : Int)))) ((32 : UInt64).toNat : Int))) (a0_x * a1_y) h
theorem bits_Mul64.e (a0_x : UInt64) (a1_y : UInt64) (h : Heap) (K : UInt64 → UInt64 → Heap → Prop) : bits_Mul64.m a0_x a1_y h K = fnC Try.prog tys [] Try.f61 [⟨.u64, a0_x⟩, ⟨.u64, a1_y⟩] (.tp (.pr .u64 (.pr .u64 .un))) h (fun x h => K x.1 x.2.1 h) := by kernel_rfl
theorem bits_Mul64.c (a0_x : UInt64) (a1_y : UInt64) {h : Heap} {K : UInt64 → UInt64 → Heap → Prop} (hm : bits_Mul64.m a0_x a1_y h K) : bits_Mul64.C a0_x a1_y h K := fn_sound (an := []) tysOk tysPl follows (f := 61) (fn := Try.f61) (args := [⟨.u64, a0_x⟩, ⟨.u64, a1_y⟩]) (by kernel_rfl) (by kernel_rfl) ((bits_Mul64.e a0_x a1_y h K) ▸ hm)
def bits_Mul.m (a0_x : UInt64) (a1_y : UInt64) (h : Heap) (K : UInt64 → UInt64 → Heap → Prop) : Prop :=
  bits_Mul64.C a0_x a1_y h fun x1 x2 h1 =>
  K x1 x2 h1
theorem bits_Mul.e (a0_x : UInt64) (a1_y : UInt64) (h : Heap) (K : UInt64 → UInt64 → Heap → Prop) : bits_Mul.m a0_x a1_y h K = fnC Try.prog tys [] Try.f49 [⟨.u64, a0_x⟩, ⟨.u64, a1_y⟩] (.tp (.pr .u64 (.pr .u64 .un))) h (fun x h => K x.1 x.2.1 h) := by kernel_rfl
theorem bits_Mul.c (a0_x : UInt64) (a1_y : UInt64) {h : Heap} {K : UInt64 → UInt64 → Heap → Prop} (hm : bits_Mul.m a0_x a1_y h K) : bits_Mul.C a0_x a1_y h K := fn_sound (an := []) tysOk tysPl follows (f := 49) (fn := Try.f49) (args := [⟨.u64, a0_x⟩, ⟨.u64, a1_y⟩]) (by kernel_rfl) (by kernel_rfl) ((bits_Mul.e a0_x a1_y h K) ▸ hm)
def slices_Repeat_s_string_string.m (a0_x : Slc) (a1_count : Int) (h : Heap) (K : Slc → Heap → Prop) : Prop :=
  jn .un (fun J1 =>
  if (decide (a1_count < 0)) = true then False
  else J1 (()) h) fun y1 h1 =>
  bits_Mul.C (u64I (a0_x.len : Int)) (u64I a1_count) h1 fun x1 x2 h2 =>
  jn (.pr .b .un) (fun J2 =>
  if (decide (x1 > 0)) = true then J2 (true, ()) h2
  else J2 (decide (x2 > 9223372036854775807), ()) h2) fun y2 h3 =>
  jn .un (fun J3 =>
  if y2.1 = true then False
  else J3 (()) h3) fun y3 h4 =>
  mk 9 .s 16 (w64 (x2.toNat : Int)) (w64 (x2.toNat : Int)) h4 fun s1 h5 =>
  slCells a0_x (min a0_x.len s1.len * 1) h5 fun cs1 =>
  cp s1 (min a0_x.len s1.len) cs1 h5 fun n1 h6 =>
  lp (.pr .i .un) (fun y4 h7 next1 =>
  if (decide (y4.1 < (s1.len : Int))) = true then (slx s1 y4.1 (s1.len : Int) (s1.cap : Int) 1 fun s2 =>
  slx s1 0 y4.1 (s1.cap : Int) 1 fun s3 =>
  slCells s3 (min s3.len s2.len * 1) h7 fun cs2 =>
  cp s2 (min s3.len s2.len) cs2 h7 fun n2 h8 =>
  next1 (w64 (y4.1 + n2), ()) h8)
  else K s1 h7) (n1, ()) h6
theorem slices_Repeat_s_string_string.e (a0_x : Slc) (a1_count : Int) (h : Heap) (K : Slc → Heap → Prop) : slices_Repeat_s_string_string.m a0_x a1_count h K = fnC Try.prog tys [(9, []), (16, [(26, .b)]), (21, []), (34, [(8, .i)])] Try.f36 [⟨.sl, a0_x⟩, ⟨.i, a1_count⟩] .sl h (K) := by kernel_rfl
theorem slices_Repeat_s_string_string.c (a0_x : Slc) (a1_count : Int) {h : Heap} {K : Slc → Heap → Prop} (hm : slices_Repeat_s_string_string.m a0_x a1_count h K) : slices_Repeat_s_string_string.C a0_x a1_count h K := fn_sound (an := [(9, []), (16, [(26, .b)]), (21, []), (34, [(8, .i)])]) tysOk tysPl follows (f := 36) (fn := Try.f36) (args := [⟨.sl, a0_x⟩, ⟨.i, a1_count⟩]) (by kernel_rfl) (by kernel_rfl) ((slices_Repeat_s_string_string.e a0_x a1_count h K) ▸ hm)
def disk_New.m (a0_sectors : Int) (h : Heap) (K : Option Pl → Int → Heap → Prop) : Prop :=
  jn (.pr .b .un) (fun J1 =>
  if (decide (a0_sectors < 1)) = true then J1 (true, ()) h
  else J1 (decide (a0_sectors > 256), ()) h) fun y1 h1 =>
  if y1.1 = true then K none 700 h1
  else mk 5 .u8 1 64 64 h1 fun s1 h2 =>
  b2s s1 h2 fun s2 q1 =>
  bs 9 .s [s2] h2 fun s3 h3 =>
  slices_Repeat_s_string_string.C s3 a0_sectors h3 fun x1 h4 =>
  mkm h4 fun b1 h5 =>
  new 75 (.ag (.pr .sl (.pr .m .un))) (x1, ((some b1), ())) h5 fun b2 h6 =>
  K (some (Pl.mk b2 0)) 0 h6
theorem disk_New.e (a0_sectors : Int) (h : Heap) (K : Option Pl → Int → Heap → Prop) : disk_New.m a0_sectors h K = fnC Try.prog tys [(4, [(10, .b)])] Try.f11 [⟨.i, a0_sectors⟩] (.tp (.pr .p (.pr .i .un))) h (fun x h => K x.1 x.2.1 h) := by kernel_rfl
theorem disk_New.c (a0_sectors : Int) {h : Heap} {K : Option Pl → Int → Heap → Prop} (hm : disk_New.m a0_sectors h K) : disk_New.C a0_sectors h K := fn_sound (an := [(4, [(10, .b)])]) tysOk tysPl follows (f := 11) (fn := Try.f11) (args := [⟨.i, a0_sectors⟩]) (by kernel_rfl) (by kernel_rfl) ((disk_New.e a0_sectors h K) ▸ hm)
def wire_New.m (h : Heap) (K : Option Pl → Heap → Prop) : Prop :=
  new 145 (.ag (.pr .sl .un)) (⟨none, 0, 0⟩, ()) h fun b1 h1 =>
  K (some (Pl.mk b1 0)) h1
theorem wire_New.e (h : Heap) (K : Option Pl → Heap → Prop) : wire_New.m h K = fnC Try.prog tys [] Try.f65 [] .p h (K) := by kernel_rfl
theorem wire_New.c {h : Heap} {K : Option Pl → Heap → Prop} (hm : wire_New.m h K) : wire_New.C h K := fn_sound (an := []) tysOk tysPl follows (f := 65) (fn := Try.f65) (args := []) (by kernel_rfl) (by kernel_rfl) ((wire_New.e h K) ▸ hm)
def wire_sized.m (a0_size : Int) (h : Heap) (K : Bool → Heap → Prop) : Prop :=
  jn (.pr .b .un) (fun J1 =>
  if (decide (a0_size = (1 : Int))) = true then J1 (true, ()) h
  else if (decide (a0_size = (2 : Int))) = true then J1 (true, ()) h
  else J1 (decide (a0_size = (4 : Int)), ()) h) fun y1 h1 =>
  K y1.1 h1
theorem wire_sized.e (a0_size : Int) (h : Heap) (K : Bool → Heap → Prop) : wire_sized.m a0_size h K = fnC Try.prog tys [(4, [(2, .b)])] Try.f78 [⟨.i, a0_size⟩] .b h (K) := by kernel_rfl
theorem wire_sized.c (a0_size : Int) {h : Heap} {K : Bool → Heap → Prop} (hm : wire_sized.m a0_size h K) : wire_sized.C a0_size h K := fn_sound (an := [(4, [(2, .b)])]) tysOk tysPl follows (f := 78) (fn := Try.f78) (args := [⟨.i, a0_size⟩]) (by kernel_rfl) (by kernel_rfl) ((wire_sized.e a0_size h K) ▸ hm)
def wire_bytes.m (a0_x : Int) (a1_size : Int) (h : Heap) (K : ByteArray → Bool → Heap → Prop) : Prop :=
  jn (.pr .b .un) (fun J1 =>
  wire_sized.C a1_size h fun x1 h2 =>
  if (!x1) = true then J1 (true, ()) h2
  else if (decide (a0_x < 0)) = true then J1 (true, ()) h2
  else 0 ≤ w64 (8 * a1_size) ∧
  J1 (!(decide ((shrI a0_x (w64 (8 * a1_size))) = (0 : Int))), ()) h2) fun y1 h1 =>
  if y1.1 = true then K ⟨#[]⟩ false h1
  else mk 5 .u8 1 a1_size a1_size h1 fun s1 h3 =>
  lp (.pr .i .un) (fun y2 h4 next1 =>
  if (decide (y2.1 < (s1.len : Int))) = true then (0 ≤ w64 (8 * (w64 ((w64 (a1_size - 1)) - y2.1))) ∧
  ix s1 y2.1 1 fun l1 =>
  st .u8 l1 (u8I (shrI a0_x (w64 (8 * (w64 ((w64 (a1_size - 1)) - y2.1)))))) h4 fun h5 =>
  next1 (w64 (y2.1 + 1), ()) h5)
  else b2s s1 h4 fun s2 q1 =>
  K s2 true h4) (0, ()) h3
theorem wire_bytes.e (a0_x : Int) (a1_size : Int) (h : Heap) (K : ByteArray → Bool → Heap → Prop) : wire_bytes.m a0_x a1_size h K = fnC Try.prog tys [(4, [(21, .b)]), (22, [(26, .i)])] Try.f80 [⟨.i, a0_x⟩, ⟨.i, a1_size⟩] (.tp (.pr .s (.pr .b .un))) h (fun x h => K x.1 x.2.1 h) := by kernel_rfl
theorem wire_bytes.c (a0_x : Int) (a1_size : Int) {h : Heap} {K : ByteArray → Bool → Heap → Prop} (hm : wire_bytes.m a0_x a1_size h K) : wire_bytes.C a0_x a1_size h K := fn_sound (an := [(4, [(21, .b)]), (22, [(26, .i)])]) tysOk tysPl follows (f := 80) (fn := Try.f80) (args := [⟨.i, a0_x⟩, ⟨.i, a1_size⟩]) (by kernel_rfl) (by kernel_rfl) ((wire_bytes.e a0_x a1_size h K) ▸ hm)
def wire_Writer_put.m (a0_w : Option Pl) (a1_parts : Slc) (h : Heap) (K : Int → Heap → Prop) : Prop :=
  nck a0_w fun l1 =>
  ld .sl (l1.fld 0) h fun x1 =>
  lp (.pr .i (.pr .i .un)) (fun y1 h1 next1 =>
  if (decide (y1.2.1 < (a1_parts.len : Int))) = true then (ix a1_parts y1.2.1 1 fun l2 =>
  ld .s l2 h1 fun x2 =>
  if (decide ((w64 (y1.1 + (x2.size : Int))) > 65536)) = true then K 302 h1
  else next1 (w64 (y1.1 + (x2.size : Int)), w64 (y1.2.1 + 1), ()) h1)
  else lp (.pr .i .un) (fun y2 h2 next2 =>
  if (decide (y2.1 < (a1_parts.len : Int))) = true then (ix a1_parts y2.1 1 fun l3 =>
  ld .s l3 h2 fun x3 =>
  nck a0_w fun l4 =>
  ld .sl (l4.fld 0) h2 fun x4 =>
  ap 5 .u8 1 x4 x3.size (x3.data.toList.flatMap Kd.u8.cells) h2 fun s1 h3 =>
  nck a0_w fun l5 =>
  st .sl (l5.fld 0) s1 h3 fun h4 =>
  next2 (w64 (y2.1 + 1), ()) h4)
  else K 0 h2) (0, ()) h1) ((x1.len : Int), 0, ()) h
theorem wire_Writer_put.e (a0_w : Option Pl) (a1_parts : Slc) (h : Heap) (K : Int → Heap → Prop) : wire_Writer_put.m a0_w a1_parts h K = fnC Try.prog tys [(14, [(5, .i), (17, .i)]), (42, [(30, .i)])] Try.f81 [⟨.p, a0_w⟩, ⟨.sl, a1_parts⟩] .i h (K) := by kernel_rfl
theorem wire_Writer_put.c (a0_w : Option Pl) (a1_parts : Slc) {h : Heap} {K : Int → Heap → Prop} (hm : wire_Writer_put.m a0_w a1_parts h K) : wire_Writer_put.C a0_w a1_parts h K := fn_sound (an := [(14, [(5, .i), (17, .i)]), (42, [(30, .i)])]) tysOk tysPl follows (f := 81) (fn := Try.f81) (args := [⟨.p, a0_w⟩, ⟨.sl, a1_parts⟩]) (by kernel_rfl) (by kernel_rfl) ((wire_Writer_put.e a0_w a1_parts h K) ▸ hm)
def wire_Writer_Num.m (a0_w : Option Pl) (a1_x : Int) (a2_size : Int) (h : Heap) (K : Int → Heap → Prop) : Prop :=
  if (decide (a0_w = none)) = true then K 1 h
  else wire_bytes.C a1_x a2_size h fun x1 x2 h1 =>
  if (!x2) = true then K 301 h1
  else bs 9 .s [x1] h1 fun s1 h2 =>
  wire_Writer_put.C a0_w s1 h2 fun x3 h3 =>
  K x3 h3
theorem wire_Writer_Num.e (a0_w : Option Pl) (a1_x : Int) (a2_size : Int) (h : Heap) (K : Int → Heap → Prop) : wire_Writer_Num.m a0_w a1_x a2_size h K = fnC Try.prog tys [] Try.f66 [⟨.p, a0_w⟩, ⟨.i, a1_x⟩, ⟨.i, a2_size⟩] .i h (K) := by kernel_rfl
theorem wire_Writer_Num.c (a0_w : Option Pl) (a1_x : Int) (a2_size : Int) {h : Heap} {K : Int → Heap → Prop} (hm : wire_Writer_Num.m a0_w a1_x a2_size h K) : wire_Writer_Num.C a0_w a1_x a2_size h K := fn_sound (an := []) tysOk tysPl follows (f := 66) (fn := Try.f66) (args := [⟨.p, a0_w⟩, ⟨.i, a1_x⟩, ⟨.i, a2_size⟩]) (by kernel_rfl) (by kernel_rfl) ((wire_Writer_Num.e a0_w a1_x a2_size h K) ▸ hm)
def wire_Writer_Text.m (a0_w : Option Pl) (a1_s : ByteArray) (a2_size : Int) (h : Heap) (K : Int → Heap → Prop) : Prop :=
  if (decide (a0_w = none)) = true then K 1 h
  else wire_bytes.C (a1_s.size : Int) a2_size h fun x1 x2 h1 =>
  if (!x2) = true then K 301 h1
  else bs 9 .s [x1, a1_s] h1 fun s1 h2 =>
  wire_Writer_put.C a0_w s1 h2 fun x3 h3 =>
  K x3 h3
theorem wire_Writer_Text.e (a0_w : Option Pl) (a1_s : ByteArray) (a2_size : Int) (h : Heap) (K : Int → Heap → Prop) : wire_Writer_Text.m a0_w a1_s a2_size h K = fnC Try.prog tys [] Try.f67 [⟨.p, a0_w⟩, ⟨.s, a1_s⟩, ⟨.i, a2_size⟩] .i h (K) := by kernel_rfl
theorem wire_Writer_Text.c (a0_w : Option Pl) (a1_s : ByteArray) (a2_size : Int) {h : Heap} {K : Int → Heap → Prop} (hm : wire_Writer_Text.m a0_w a1_s a2_size h K) : wire_Writer_Text.C a0_w a1_s a2_size h K := fn_sound (an := []) tysOk tysPl follows (f := 67) (fn := Try.f67) (args := [⟨.p, a0_w⟩, ⟨.s, a1_s⟩, ⟨.i, a2_size⟩]) (by kernel_rfl) (by kernel_rfl) ((wire_Writer_Text.e a0_w a1_s a2_size h K) ▸ hm)
def wire_Writer_All.m (a0_w : Option Pl) (h : Heap) (K : ByteArray → Heap → Prop) : Prop :=
  if (decide (a0_w = none)) = true then K ⟨#[]⟩ h
  else nck a0_w fun l1 =>
  ld .sl (l1.fld 0) h fun x1 =>
  b2s x1 h fun s1 q1 =>
  K s1 h
theorem wire_Writer_All.e (a0_w : Option Pl) (h : Heap) (K : ByteArray → Heap → Prop) : wire_Writer_All.m a0_w h K = fnC Try.prog tys [] Try.f68 [⟨.p, a0_w⟩] .s h (K) := by kernel_rfl
theorem wire_Writer_All.c (a0_w : Option Pl) {h : Heap} {K : ByteArray → Heap → Prop} (hm : wire_Writer_All.m a0_w h K) : wire_Writer_All.C a0_w h K := fn_sound (an := []) tysOk tysPl follows (f := 68) (fn := Try.f68) (args := [⟨.p, a0_w⟩]) (by kernel_rfl) (by kernel_rfl) ((wire_Writer_All.e a0_w h K) ▸ hm)
def journal_body.m (a0_seq : Int) (a1_r : Kd.Ty (Kd.ag (.pr .i (.pr .s .un)))) (h : Heap) (K : ByteArray → ByteArray → Bool → Heap → Prop) : Prop :=
  new 34 (.ag (.pr .i (.pr .s .un))) a1_r h fun b1 h1 =>
  wire_New.C h1 fun x1 h2 =>
  jn (.pr .b .un) (fun J1 =>
  ld .s ((Pl.mk b1 0).fld 1) h2 fun x2 =>
  if (decide ((x2.size : Int) > 1024)) = true then J1 (true, ()) h2
  else wire_Writer_Num.C x1 a0_seq 4 h2 fun x3 h4 =>
  if (!(decide (x3 = (0 : Int)))) = true then J1 (true, ()) h4
  else ld .i ((Pl.mk b1 0).fld 0) h4 fun x4 =>
  wire_Writer_Num.C x1 x4 1 h4 fun x5 h5 =>
  if (!(decide (x5 = (0 : Int)))) = true then J1 (true, ()) h5
  else ld .s ((Pl.mk b1 0).fld 1) h5 fun x6 =>
  wire_Writer_Text.C x1 x6 2 h5 fun x7 h6 =>
  J1 (!(decide (x7 = (0 : Int))), ()) h6) fun y1 h3 =>
  if y1.1 = true then K ⟨#[]⟩ ⟨#[]⟩ false h3
  else wire_Writer_All.C x1 h3 fun x8 h7 =>
  sls x8 0 4 fun s1 =>
  sls x8 4 (x8.size : Int) fun s2 =>
  K s1 s2 true h7
theorem journal_body.e (a0_seq : Int) (a1_r : Kd.Ty (Kd.ag (.pr .i (.pr .s .un)))) (h : Heap) (K : ByteArray → ByteArray → Bool → Heap → Prop) : journal_body.m a0_seq a1_r h K = fnC Try.prog tys [(8, [(33, .b)])] Try.f52 [⟨.i, a0_seq⟩, ⟨(.ag (.pr .i (.pr .s .un))), a1_r⟩] (.tp (.pr .s (.pr .s (.pr .b .un)))) h (fun x h => K x.1 x.2.1 x.2.2.1 h) := by kernel_rfl
theorem journal_body.c (a0_seq : Int) (a1_r : Kd.Ty (Kd.ag (.pr .i (.pr .s .un)))) {h : Heap} {K : ByteArray → ByteArray → Bool → Heap → Prop} (hm : journal_body.m a0_seq a1_r h K) : journal_body.C a0_seq a1_r h K := fn_sound (an := [(8, [(33, .b)])]) tysOk tysPl follows (f := 52) (fn := Try.f52) (args := [⟨.i, a0_seq⟩, ⟨(.ag (.pr .i (.pr .s .un))), a1_r⟩]) (by kernel_rfl) (by kernel_rfl) ((journal_body.e a0_seq a1_r h K) ▸ hm)
def sha_New.m (h : Heap) (K : Option Pl → Heap → Prop) : Prop :=
  new 148 (.ag (.pr (.ar 8 .u32) (.pr .sl (.pr .i .un)))) ((((((((((Vector.replicate 8 (0 : UInt32)).setIfInBounds 0 1779033703).setIfInBounds 1 3144134277).setIfInBounds 2 1013904242).setIfInBounds 3 2773480762).setIfInBounds 4 1359893119).setIfInBounds 5 2600822924).setIfInBounds 6 528734635).setIfInBounds 7 1541459225), (⟨none, 0, 0⟩, (0, ()))) h fun b1 h1 =>
  K (some (Pl.mk b1 0)) h1
theorem sha_New.e (h : Heap) (K : Option Pl → Heap → Prop) : sha_New.m h K = fnC Try.prog tys [] Try.f69 [] .p h (K) := by kernel_rfl
theorem sha_New.c {h : Heap} {K : Option Pl → Heap → Prop} (hm : sha_New.m h K) : sha_New.C h K := fn_sound (an := []) tysOk tysPl follows (f := 69) (fn := Try.f69) (args := []) (by kernel_rfl) (by kernel_rfl) ((sha_New.e h K) ▸ hm)
def tag_pieces_c1.m (a0_yield : Value) (c0 : Pl) (c1 : Pl) (h : Heap) (K : Heap → Prop) : Prop :=
  ld .i c0 h fun x1 =>
  bs 5 .u8 [u8I x1] h fun s1 h1 =>
  b2s s1 h1 fun s2 q1 =>
  callV Try.prog a0_yield [Kd.s.val s2] .b h1 fun x2 h2 =>
  if (!x2) = true then K h2
  else ld .sl c1 h2 fun x3 =>
  lp (.pr .i .un) (fun y1 h3 next1 =>
  if (decide (y1.1 < (x3.len : Int))) = true then (jn .un (fun J1 =>
  ix x3 y1.1 1 fun l1 =>
  ld .s l1 h3 fun x4 =>
  jn (.pr .b .un) (fun J2 =>
  0 ≤ (((24 : UInt64).toNat : Int) : Int) ∧
  0 ≤ (((16 : UInt64).toNat : Int) : Int) ∧
  0 ≤ (((8 : UInt64).toNat : Int) : Int) ∧
  bs 5 .u8 [u8I (shrI (x4.size : Int) ((24 : UInt64).toNat : Int)), u8I (shrI (x4.size : Int) ((16 : UInt64).toNat : Int)), u8I (shrI (x4.size : Int) ((8 : UInt64).toNat : Int)), u8I (x4.size : Int)] h3 fun s3 h6 =>
  b2s s3 h6 fun s4 q2 =>
  callV Try.prog a0_yield [Kd.s.val s4] .b h6 fun x5 h7 =>
  if (!x5) = true then J2 (true, ()) h7
  else callV Try.prog a0_yield [Kd.s.val x4] .b h7 fun x6 h8 =>
  J2 (!x6, ()) h8) fun y3 h5 =>
  if y3.1 = true then K h5
  else J1 (()) h5) fun y2 h4 =>
  next1 (w64 (y1.1 + 1), ()) h4)
  else K h3) (0, ()) h2
theorem tag_pieces_c1.e (a0_yield : Value) (c0 : Pl) (c1 : Pl) (h : Heap) (K : Heap → Prop) : tag_pieces_c1.m a0_yield c0 c1 h K = fnC Try.prog tys [(7, []), (10, [(16, .i)]), (20, [(43, .b)])] Try.f82 [⟨.f, a0_yield⟩, ⟨.p, some c0⟩, ⟨.p, some c1⟩] .un h (fun _ h => K h) := by kernel_rfl
theorem tag_pieces_c1.c (a0_yield : Value) (c0 : Pl) (c1 : Pl) {h : Heap} {K : Heap → Prop} (hm : tag_pieces_c1.m a0_yield c0 c1 h K) : tag_pieces_c1.C a0_yield c0 c1 h K := fn_sound (an := [(7, []), (10, [(16, .i)]), (20, [(43, .b)])]) tysOk tysPl follows (f := 82) (fn := Try.f82) (args := [⟨.f, a0_yield⟩, ⟨.p, some c0⟩, ⟨.p, some c1⟩]) (by kernel_rfl) (by kernel_rfl) ((tag_pieces_c1.e a0_yield c0 c1 h K) ▸ hm)
def tag_pieces.m (a0_tag : Int) (a1_parts : Slc) (h : Heap) (K : Value → Heap → Prop) : Prop :=
  new 3 .i a0_tag h fun b1 h1 =>
  new 70 .sl a1_parts h1 fun b2 h2 =>
  K (.func (.func 82) #[] #[Kd.p.val (some (Pl.mk b1 0)), Kd.p.val (some (Pl.mk b2 0))]) h2
theorem tag_pieces.e (a0_tag : Int) (a1_parts : Slc) (h : Heap) (K : Value → Heap → Prop) : tag_pieces.m a0_tag a1_parts h K = fnC Try.prog tys [] Try.f70 [⟨.i, a0_tag⟩, ⟨.sl, a1_parts⟩] .f h (K) := by kernel_rfl
theorem tag_pieces.c (a0_tag : Int) (a1_parts : Slc) {h : Heap} {K : Value → Heap → Prop} (hm : tag_pieces.m a0_tag a1_parts h K) : tag_pieces.C a0_tag a1_parts h K := fn_sound (an := []) tysOk tysPl follows (f := 70) (fn := Try.f70) (args := [⟨.i, a0_tag⟩, ⟨.sl, a1_parts⟩]) (by kernel_rfl) (by kernel_rfl) ((tag_pieces.e a0_tag a1_parts h K) ▸ hm)
def sha_constants.m (h : Heap) (K : Kd.Ty (Kd.ar 64 .u32) → Heap → Prop) : Prop :=
  new 139 (.ar 64 .u32) (Vector.replicate 64 0) h fun b1 h1 =>
  st (.ar 64 .u32) (Pl.mk b1 0) (((((((((((((((((((((((((((((((((((((((((((((((((((((((((((((((((Vector.replicate 64 (0 : UInt32)).setIfInBounds 0 1116352408).setIfInBounds 1 1899447441).setIfInBounds 2 3049323471).setIfInBounds 3 3921009573).setIfInBounds 4 961987163).setIfInBounds 5 1508970993).setIfInBounds 6 2453635748).setIfInBounds 7 2870763221).setIfInBounds 8 3624381080).setIfInBounds 9 310598401).setIfInBounds 10 607225278).setIfInBounds 11 1426881987).setIfInBounds 12 1925078388).setIfInBounds 13 2162078206).setIfInBounds 14 2614888103).setIfInBounds 15 3248222580).setIfInBounds 16 3835390401).setIfInBounds 17 4022224774).setIfInBounds 18 264347078).setIfInBounds 19 604807628).setIfInBounds 20 770255983).setIfInBounds 21 1249150122).setIfInBounds 22 1555081692).setIfInBounds 23 1996064986).setIfInBounds 24 2554220882).setIfInBounds 25 2821834349).setIfInBounds 26 2952996808).setIfInBounds 27 3210313671).setIfInBounds 28 3336571891).setIfInBounds 29 3584528711).setIfInBounds 30 113926993).setIfInBounds 31 338241895).setIfInBounds 32 666307205).setIfInBounds 33 773529912).setIfInBounds 34 1294757372).setIfInBounds 35 1396182291).setIfInBounds 36 1695183700).setIfInBounds 37 1986661051).setIfInBounds 38 2177026350).setIfInBounds 39 2456956037).setIfInBounds 40 2730485921).setIfInBounds 41 2820302411).setIfInBounds 42 3259730800).setIfInBounds 43 3345764771).setIfInBounds 44 3516065817).setIfInBounds 45 3600352804).setIfInBounds 46 4094571909).setIfInBounds 47 275423344).setIfInBounds 48 430227734).setIfInBounds 49 506948616).setIfInBounds 50 659060556).setIfInBounds 51 883997877).setIfInBounds 52 958139571).setIfInBounds 53 1322822218).setIfInBounds 54 1537002063).setIfInBounds 55 1747873779).setIfInBounds 56 1955562222).setIfInBounds 57 2024104815).setIfInBounds 58 2227730452).setIfInBounds 59 2361852424).setIfInBounds 60 2428436474).setIfInBounds 61 2756734187).setIfInBounds 62 3204031479).setIfInBounds 63 3329325298) h1 fun h2 =>
  ld (.ar 64 .u32) (Pl.mk b1 0) h2 fun x1 =>
  K x1 h2
theorem sha_constants.e (h : Heap) (K : Kd.Ty (Kd.ar 64 .u32) → Heap → Prop) : sha_constants.m h K = fnC Try.prog tys [] Try.f95 [] (.ar 64 .u32) h (K) := by kernel_rfl
theorem sha_constants.c {h : Heap} {K : Kd.Ty (Kd.ar 64 .u32) → Heap → Prop} (hm : sha_constants.m h K) : sha_constants.C h K := fn_sound (an := []) tysOk tysPl follows (f := 95) (fn := Try.f95) (args := []) (by kernel_rfl) (by kernel_rfl) ((sha_constants.e h K) ▸ hm)
def bits_RotateLeft32.m (a0_x : UInt32) (a1_k : Int) (h : Heap) (K : UInt32 → Heap → Prop) : Prop :=
  0 ≤ (((u64I a1_k) &&& 31).toNat : Int) ∧
  0 ≤ ((32 - ((u64I a1_k) &&& 31)).toNat : Int) ∧
  K ((shU32 .shl a0_x (((u64I a1_k) &&& 31).toNat : Int)) ||| (shU32 .shr a0_x ((32 - ((u64I a1_k) &&& 31)).toNat : Int))) h
theorem bits_RotateLeft32.e (a0_x : UInt32) (a1_k : Int) (h : Heap) (K : UInt32 → Heap → Prop) : bits_RotateLeft32.m a0_x a1_k h K = fnC Try.prog tys [] Try.f97 [⟨.u32, a0_x⟩, ⟨.i, a1_k⟩] .u32 h (K) := by kernel_rfl
theorem bits_RotateLeft32.c (a0_x : UInt32) (a1_k : Int) {h : Heap} {K : UInt32 → Heap → Prop} (hm : bits_RotateLeft32.m a0_x a1_k h K) : bits_RotateLeft32.C a0_x a1_k h K := fn_sound (an := []) tysOk tysPl follows (f := 97) (fn := Try.f97) (args := [⟨.u32, a0_x⟩, ⟨.i, a1_k⟩]) (by kernel_rfl) (by kernel_rfl) ((bits_RotateLeft32.e a0_x a1_k h K) ▸ hm)
def sha_schedule.m (a0_b : Slc) (h : Heap) (K : Kd.Ty (Kd.ar 64 .u32) → Heap → Prop) : Prop :=
  new 139 (.ar 64 .u32) (Vector.replicate 64 0) h fun b1 h1 =>
  new 139 (.ar 64 .u32) (Vector.replicate 64 0) h1 fun b2 h2 =>
  lp (.pr .i .un) (fun y1 h3 next1 =>
  if (decide (y1.1 < 64)) = true then (jn .un (fun J1 =>
  if (decide (y1.1 < 16)) = true then (ix a0_b (w64 (4 * y1.1)) 1 fun l1 =>
  ld .u8 l1 h3 fun x1 =>
  0 ≤ (((24 : UInt64).toNat : Int) : Int) ∧
  ix a0_b (w64 ((w64 (4 * y1.1)) + 1)) 1 fun l2 =>
  ld .u8 l2 h3 fun x2 =>
  0 ≤ (((16 : UInt64).toNat : Int) : Int) ∧
  ix a0_b (w64 ((w64 (4 * y1.1)) + 2)) 1 fun l3 =>
  ld .u8 l3 h3 fun x3 =>
  0 ≤ (((8 : UInt64).toNat : Int) : Int) ∧
  ix a0_b (w64 ((w64 (4 * y1.1)) + 3)) 1 fun l4 =>
  ld .u8 l4 h3 fun x4 =>
  ixa (Pl.mk b2 0) 64 y1.1 1 fun l5 =>
  st .u32 l5 ((((shU32 .shl (UInt32.ofNat x1.toNat) ((24 : UInt64).toNat : Int)) ||| (shU32 .shl (UInt32.ofNat x2.toNat) ((16 : UInt64).toNat : Int))) ||| (shU32 .shl (UInt32.ofNat x3.toNat) ((8 : UInt64).toNat : Int))) ||| (UInt32.ofNat x4.toNat)) h3 fun h5 =>
  J1 (()) h5)
  else ixa (Pl.mk b2 0) 64 (w64 (y1.1 - 15)) 1 fun l6 =>
  ld .u32 l6 h3 fun x5 =>
  ixa (Pl.mk b2 0) 64 (w64 (y1.1 - 2)) 1 fun l7 =>
  ld .u32 l7 h3 fun x6 =>
  ixa (Pl.mk b2 0) 64 (w64 (y1.1 - 16)) 1 fun l8 =>
  ld .u32 l8 h3 fun x7 =>
  ixa (Pl.mk b2 0) 64 (w64 (y1.1 - 7)) 1 fun l9 =>
  ld .u32 l9 h3 fun x8 =>
  0 ≤ (((3 : UInt64).toNat : Int) : Int) ∧
  0 ≤ (((10 : UInt64).toNat : Int) : Int) ∧
  bits_RotateLeft32.C x5 (-7) h3 fun x9 h6 =>
  sm .u32 l9 x8 h6 ∧ sm .u32 l8 x7 h6 ∧ 
  bits_RotateLeft32.C x5 (-18) h6 fun x10 h7 =>
  sm .u32 l9 x8 h7 ∧ sm .u32 l8 x7 h7 ∧ 
  bits_RotateLeft32.C x6 (-17) h7 fun x11 h8 =>
  sm .u32 l9 x8 h8 ∧ sm .u32 l8 x7 h8 ∧ 
  bits_RotateLeft32.C x6 (-19) h8 fun x12 h9 =>
  sm .u32 l9 x8 h9 ∧ sm .u32 l8 x7 h9 ∧ 
  ixa (Pl.mk b2 0) 64 y1.1 1 fun l10 =>
  st .u32 l10 (((x7 + x8) + ((x9 ^^^ x10) ^^^ (shU32 .shr x5 ((3 : UInt64).toNat : Int)))) + ((x11 ^^^ x12) ^^^ (shU32 .shr x6 ((10 : UInt64).toNat : Int)))) h9 fun h10 =>
  J1 (()) h10) fun y2 h4 =>
  next1 (w64 (y1.1 + 1), ()) h4)
  else ld (.ar 64 .u32) (Pl.mk b2 0) h3 fun x13 =>
  st (.ar 64 .u32) (Pl.mk b1 0) x13 h3 fun h11 =>
  ld (.ar 64 .u32) (Pl.mk b1 0) h11 fun x14 =>
  K x14 h11) (0, ()) h2
theorem sha_schedule.e (a0_b : Slc) (h : Heap) (K : Kd.Ty (Kd.ar 64 .u32) → Heap → Prop) : sha_schedule.m a0_b h K = fnC Try.prog tys [(7, []), (14, [(7, .i)])] Try.f96 [⟨.sl, a0_b⟩] (.ar 64 .u32) h (K) := by kernel_rfl
theorem sha_schedule.c (a0_b : Slc) {h : Heap} {K : Kd.Ty (Kd.ar 64 .u32) → Heap → Prop} (hm : sha_schedule.m a0_b h K) : sha_schedule.C a0_b h K := fn_sound (an := [(7, []), (14, [(7, .i)])]) tysOk tysPl follows (f := 96) (fn := Try.f96) (args := [⟨.sl, a0_b⟩]) (by kernel_rfl) (by kernel_rfl) ((sha_schedule.e a0_b h K) ▸ hm)
def sha_Digest_turn.m (a0_d : Option Pl) (a1_b : Slc) (h : Heap) (K : Heap → Prop) : Prop :=
  sha_constants.C h fun x1 h1 =>
  sha_schedule.C a1_b h1 fun x2 h2 =>
  new 139 (.ar 64 .u32) (Vector.replicate 64 0) h2 fun b1 h3 =>
  new 139 (.ar 64 .u32) (Vector.replicate 64 0) h3 fun b2 h4 =>
  st (.ar 64 .u32) (Pl.mk b1 0) x1 h4 fun h5 =>
  st (.ar 64 .u32) (Pl.mk b2 0) x2 h5 fun h6 =>
  nck a0_d fun l1 =>
  ld (.ar 8 .u32) (l1.fld 0) h6 fun x3 =>
  new 112 (.ar 8 .u32) (Vector.replicate 8 0) h6 fun b3 h7 =>
  st (.ar 8 .u32) (Pl.mk b3 0) x3 h7 fun h8 =>
  lp (.pr .i .un) (fun y1 h9 next1 =>
  if (decide (y1.1 < 64)) = true then (ixa (Pl.mk b3 0) 8 4 1 fun l2 =>
  ld .u32 l2 h9 fun x4 =>
  ixa (Pl.mk b3 0) 8 0 1 fun l3 =>
  ld .u32 l3 h9 fun x5 =>
  ixa (Pl.mk b3 0) 8 7 1 fun l4 =>
  ld .u32 l4 h9 fun x6 =>
  ixa (Pl.mk b3 0) 8 5 1 fun l5 =>
  ld .u32 l5 h9 fun x7 =>
  ixa (Pl.mk b3 0) 8 6 1 fun l6 =>
  ld .u32 l6 h9 fun x8 =>
  ixa (Pl.mk b1 0) 64 y1.1 1 fun l7 =>
  ld .u32 l7 h9 fun x9 =>
  ixa (Pl.mk b2 0) 64 y1.1 1 fun l8 =>
  ld .u32 l8 h9 fun x10 =>
  bits_RotateLeft32.C x4 (-6) h9 fun x11 h10 =>
  sm .u32 l8 x10 h10 ∧ sm .u32 l7 x9 h10 ∧ sm .u32 l6 x8 h10 ∧ sm .u32 l5 x7 h10 ∧ sm .u32 l4 x6 h10 ∧ 
  bits_RotateLeft32.C x4 (-11) h10 fun x12 h11 =>
  sm .u32 l8 x10 h11 ∧ sm .u32 l7 x9 h11 ∧ sm .u32 l6 x8 h11 ∧ sm .u32 l5 x7 h11 ∧ sm .u32 l4 x6 h11 ∧ 
  bits_RotateLeft32.C x4 (-25) h11 fun x13 h12 =>
  sm .u32 l8 x10 h12 ∧ sm .u32 l7 x9 h12 ∧ sm .u32 l6 x8 h12 ∧ sm .u32 l5 x7 h12 ∧ sm .u32 l4 x6 h12 ∧ 
  ixa (Pl.mk b3 0) 8 1 1 fun l9 =>
  ld .u32 l9 h12 fun x14 =>
  ixa (Pl.mk b3 0) 8 2 1 fun l10 =>
  ld .u32 l10 h12 fun x15 =>
  ixa (Pl.mk b3 0) 8 1 1 fun l11 =>
  ld .u32 l11 h12 fun x16 =>
  ixa (Pl.mk b3 0) 8 2 1 fun l12 =>
  ld .u32 l12 h12 fun x17 =>
  bits_RotateLeft32.C x5 (-2) h12 fun x18 h13 =>
  sm .u32 l12 x17 h13 ∧ sm .u32 l11 x16 h13 ∧ sm .u32 l10 x15 h13 ∧ sm .u32 l9 x14 h13 ∧ 
  bits_RotateLeft32.C x5 (-13) h13 fun x19 h14 =>
  sm .u32 l12 x17 h14 ∧ sm .u32 l11 x16 h14 ∧ sm .u32 l10 x15 h14 ∧ sm .u32 l9 x14 h14 ∧ 
  bits_RotateLeft32.C x5 (-22) h14 fun x20 h15 =>
  sm .u32 l12 x17 h15 ∧ sm .u32 l11 x16 h15 ∧ sm .u32 l10 x15 h15 ∧ sm .u32 l9 x14 h15 ∧ 
  ixa (Pl.mk b3 0) 8 0 1 fun l13 =>
  ld .u32 l13 h15 fun x21 =>
  ixa (Pl.mk b3 0) 8 1 1 fun l14 =>
  ld .u32 l14 h15 fun x22 =>
  ixa (Pl.mk b3 0) 8 2 1 fun l15 =>
  ld .u32 l15 h15 fun x23 =>
  ixa (Pl.mk b3 0) 8 3 1 fun l16 =>
  ld .u32 l16 h15 fun x24 =>
  ixa (Pl.mk b3 0) 8 4 1 fun l17 =>
  ld .u32 l17 h15 fun x25 =>
  ixa (Pl.mk b3 0) 8 5 1 fun l18 =>
  ld .u32 l18 h15 fun x26 =>
  ixa (Pl.mk b3 0) 8 6 1 fun l19 =>
  ld .u32 l19 h15 fun x27 =>
  st (.ar 8 .u32) (Pl.mk b3 0) (((((((((Vector.replicate 8 (0 : UInt32)).setIfInBounds 0 (((((x6 + ((x11 ^^^ x12) ^^^ x13)) + ((x4 &&& x7) ^^^ ((~~~x4) &&& x8))) + x9) + x10) + (((x18 ^^^ x19) ^^^ x20) + (((x5 &&& x14) ^^^ (x5 &&& x15)) ^^^ (x16 &&& x17))))).setIfInBounds 1 x21).setIfInBounds 2 x22).setIfInBounds 3 x23).setIfInBounds 4 (x24 + ((((x6 + ((x11 ^^^ x12) ^^^ x13)) + ((x4 &&& x7) ^^^ ((~~~x4) &&& x8))) + x9) + x10))).setIfInBounds 5 x25).setIfInBounds 6 x26).setIfInBounds 7 x27) h15 fun h16 =>
  next1 (w64 (y1.1 + 1), ()) h16)
  else lp (.pr .i .un) (fun y2 h17 next2 =>
  if (decide (y2.1 < 8)) = true then (nck a0_d fun l20 =>
  ixa (l20.fld 0) 8 y2.1 1 fun l21 =>
  ld .u32 l21 h17 fun x28 =>
  ixa (Pl.mk b3 0) 8 y2.1 1 fun l22 =>
  ld .u32 l22 h17 fun x29 =>
  nck a0_d fun l23 =>
  ixa (l23.fld 0) 8 y2.1 1 fun l24 =>
  st .u32 l24 (x28 + x29) h17 fun h18 =>
  next2 (w64 (y2.1 + 1), ()) h18)
  else K h17) (0, ()) h9) (0, ()) h8
theorem sha_Digest_turn.e (a0_d : Option Pl) (a1_b : Slc) (h : Heap) (K : Heap → Prop) : sha_Digest_turn.m a0_d a1_b h K = fnC Try.prog tys [(14, [(20, .i)]), (46, [(102, .i)])] Try.f83 [⟨.p, a0_d⟩, ⟨.sl, a1_b⟩] .un h (fun _ h => K h) := by kernel_rfl
theorem sha_Digest_turn.c (a0_d : Option Pl) (a1_b : Slc) {h : Heap} {K : Heap → Prop} (hm : sha_Digest_turn.m a0_d a1_b h K) : sha_Digest_turn.C a0_d a1_b h K := fn_sound (an := [(14, [(20, .i)]), (46, [(102, .i)])]) tysOk tysPl follows (f := 83) (fn := Try.f83) (args := [⟨.p, a0_d⟩, ⟨.sl, a1_b⟩]) (by kernel_rfl) (by kernel_rfl) ((sha_Digest_turn.e a0_d a1_b h K) ▸ hm)
def sha_Digest_Write.m (a0_d : Option Pl) (a1_s : ByteArray) (h : Heap) (K : Heap → Prop) : Prop :=
  if (decide (a0_d = none)) = true then K h
  else nck a0_d fun l1 =>
  ld .i (l1.fld 9) h fun x1 =>
  nck a0_d fun l2 =>
  st .i (l2.fld 9) (w64 (x1 + (a1_s.size : Int))) h fun h1 =>
  nck a0_d fun l3 =>
  ld .sl (l3.fld 8) h1 fun x2 =>
  ap 5 .u8 1 x2 a1_s.size (a1_s.data.toList.flatMap Kd.u8.cells) h1 fun s1 h2 =>
  nck a0_d fun l4 =>
  st .sl (l4.fld 8) s1 h2 fun h3 =>
  lp (.pr .i .un) (fun y1 h4 next1 =>
  nck a0_d fun l5 =>
  ld .sl (l5.fld 8) h4 fun x3 =>
  if (decide ((w64 ((x3.len : Int) - y1.1)) ≥ 64)) = true then (nck a0_d fun l6 =>
  ld .sl (l6.fld 8) h4 fun x4 =>
  slx x4 y1.1 (w64 (y1.1 + 64)) (x4.cap : Int) 1 fun s2 =>
  sha_Digest_turn.C a0_d s2 h4 fun h5 =>
  next1 (w64 (y1.1 + 64), ()) h5)
  else nck a0_d fun l7 =>
  ld .sl (l7.fld 8) h4 fun x5 =>
  slx x5 y1.1 (x5.len : Int) (x5.cap : Int) 1 fun s3 =>
  slCells s3 (s3.len * 1) h4 fun cs1 =>
  ap 5 .u8 1 (⟨none, 0, 0⟩ : Slc) s3.len cs1 h4 fun s4 h6 =>
  nck a0_d fun l8 =>
  st .sl (l8.fld 8) s4 h6 fun h7 =>
  K h7) (0, ()) h3
theorem sha_Digest_Write.e (a0_d : Option Pl) (a1_s : ByteArray) (h : Heap) (K : Heap → Prop) : sha_Digest_Write.m a0_d a1_s h K = fnC Try.prog tys [(18, [(4, .i)])] Try.f71 [⟨.p, a0_d⟩, ⟨.s, a1_s⟩] .un h (fun _ h => K h) := by kernel_rfl
theorem sha_Digest_Write.c (a0_d : Option Pl) (a1_s : ByteArray) {h : Heap} {K : Heap → Prop} (hm : sha_Digest_Write.m a0_d a1_s h K) : sha_Digest_Write.C a0_d a1_s h K := fn_sound (an := [(18, [(4, .i)])]) tysOk tysPl follows (f := 71) (fn := Try.f71) (args := [⟨.p, a0_d⟩, ⟨.s, a1_s⟩]) (by kernel_rfl) (by kernel_rfl) ((sha_Digest_Write.e a0_d a1_s h K) ▸ hm)
def sha_Digest_Sum.m (a0_d : Option Pl) (h : Heap) (K : Kd.Ty (Kd.ar 32 .u8) → Heap → Prop) : Prop :=
  new 62 (.ar 32 .u8) (Vector.replicate 32 0) h fun b1 h1 =>
  if (decide (a0_d = none)) = true then (st (.ar 32 .u8) (Pl.mk b1 0) (Vector.replicate 32 (0 : UInt8)) h1 fun h2 =>
  ld (.ar 32 .u8) (Pl.mk b1 0) h2 fun x1 =>
  K x1 h2)
  else nck a0_d fun l1 =>
  ld (.ar 8 .u32) (l1.fld 0) h1 fun x2 =>
  nck a0_d fun l2 =>
  ld .sl (l2.fld 8) h1 fun x3 =>
  slCells x3 (x3.len * 1) h1 fun cs1 =>
  ap 5 .u8 1 (⟨none, 0, 0⟩ : Slc) x3.len cs1 h1 fun s1 h3 =>
  sm (.ar 8 .u32) (l1.fld 0) x2 h3 ∧ 
  new 148 (.ag (.pr (.ar 8 .u32) (.pr .sl (.pr .i .un)))) (x2, (s1, (0, ()))) h3 fun b2 h4 =>
  nck (some (Pl.mk b2 0)) fun l3 =>
  ld .sl (l3.fld 8) h4 fun x4 =>
  (64 : Int) ≠ 0 ∧
  mk 5 .u8 1 (w64 ((w64 (1 + ((w64 (119 - (x4.len : Int))).tmod 64))) + 8)) (w64 ((w64 (1 + ((w64 (119 - (x4.len : Int))).tmod 64))) + 8)) h4 fun s2 h5 =>
  ix s2 0 1 fun l4 =>
  st .u8 l4 128 h5 fun h6 =>
  lp (.pr .i .un) (fun y1 h7 next1 =>
  if (decide (y1.1 < 8)) = true then (nck a0_d fun l5 =>
  ld .i (l5.fld 9) h7 fun x5 =>
  0 ≤ w64 (8 * y1.1) ∧
  ix s2 (w64 ((w64 ((s2.len : Int) - 1)) - y1.1)) 1 fun l6 =>
  st .u8 l6 (u8I ((shU64 .shr ((u64I x5) * 8) (w64 (8 * y1.1))).toNat : Int)) h7 fun h8 =>
  next1 (w64 (y1.1 + 1), ()) h8)
  else b2s s2 h7 fun s3 q1 =>
  sha_Digest_Write.C (some (Pl.mk b2 0)) s3 h7 fun h9 =>
  new 62 (.ar 32 .u8) (Vector.replicate 32 0) h9 fun b3 h10 =>
  lp (.pr .i .un) (fun y2 h11 next2 =>
  if (decide (y2.1 < 32)) = true then ((4 : Int) ≠ 0 ∧
  nck (some (Pl.mk b2 0)) fun l7 =>
  ixa (l7.fld 0) 8 (w64 (y2.1.tdiv 4)) 1 fun l8 =>
  ld .u32 l8 h11 fun x6 =>
  (4 : Int) ≠ 0 ∧
  0 ≤ w64 (24 - (w64 (8 * (y2.1.tmod 4)))) ∧
  ixa (Pl.mk b3 0) 32 y2.1 1 fun l9 =>
  st .u8 l9 (u8I ((shU32 .shr x6 (w64 (24 - (w64 (8 * (y2.1.tmod 4)))))).toNat : Int)) h11 fun h12 =>
  next2 (w64 (y2.1 + 1), ()) h12)
  else ld (.ar 32 .u8) (Pl.mk b3 0) h11 fun x7 =>
  st (.ar 32 .u8) (Pl.mk b1 0) x7 h11 fun h13 =>
  ld (.ar 32 .u8) (Pl.mk b1 0) h13 fun x8 =>
  K x8 h13) (0, ()) h10) (0, ()) h6
theorem sha_Digest_Sum.e (a0_d : Option Pl) (h : Heap) (K : Kd.Ty (Kd.ar 32 .u8) → Heap → Prop) : sha_Digest_Sum.m a0_d h K = fnC Try.prog tys [(30, [(34, .i)]), (58, [(59, .i)])] Try.f72 [⟨.p, a0_d⟩] (.ar 32 .u8) h (K) := by kernel_rfl
theorem sha_Digest_Sum.c (a0_d : Option Pl) {h : Heap} {K : Kd.Ty (Kd.ar 32 .u8) → Heap → Prop} (hm : sha_Digest_Sum.m a0_d h K) : sha_Digest_Sum.C a0_d h K := fn_sound (an := [(30, [(34, .i)]), (58, [(59, .i)])]) tysOk tysPl follows (f := 72) (fn := Try.f72) (args := [⟨.p, a0_d⟩]) (by kernel_rfl) (by kernel_rfl) ((sha_Digest_Sum.e a0_d h K) ▸ hm)
def tag_Sum.m (a0_tag : Int) (a1_parts : Slc) (h : Heap) (K : Kd.Ty (Kd.ar 32 .u8) → Int → Heap → Prop) : Prop :=
  new 62 (.ar 32 .u8) (Vector.replicate 32 0) h fun b1 h1 =>
  jn (.pr .b .un) (fun J1 =>
  if (decide (a0_tag < 0)) = true then J1 (true, ()) h1
  else J1 (decide (a0_tag > 4), ()) h1) fun y1 h2 =>
  if y1.1 = true then (st (.ar 32 .u8) (Pl.mk b1 0) (Vector.replicate 32 (0 : UInt8)) h2 fun h3 =>
  ld (.ar 32 .u8) (Pl.mk b1 0) h3 fun x1 =>
  K x1 200 h3)
  else lp (.pr .i (.pr .i (.pr .i .un))) (fun y2 h4 next1 =>
  if (decide (y2.2.2.1 < (a1_parts.len : Int))) = true then (ix a1_parts y2.2.2.1 1 fun l1 =>
  ld .s l1 h4 fun x2 =>
  if (decide ((w64 (y2.1 + (x2.size : Int))) > 65536)) = true then (st (.ar 32 .u8) (Pl.mk b1 0) (Vector.replicate 32 (0 : UInt8)) h4 fun h5 =>
  ld (.ar 32 .u8) (Pl.mk b1 0) h5 fun x3 =>
  K x3 200 h5)
  else next1 (w64 (y2.1 + (x2.size : Int)), y2.2.1, w64 (y2.2.2.1 + 1), ()) h4)
  else sha_New.C h4 fun x4 h6 =>
  new 129 .p none h6 fun b2 h7 =>
  st .p (Pl.mk b2 0) x4 h7 fun h8 =>
  tag_pieces.C a0_tag a1_parts h8 fun x5 h9 =>
  rf Try.prog x5 (Kd.Ty (.pr .s .un)) (fun z => [Kd.s.val z.1]) h9 (fun y3 h10 bg1 kn1 kr1 =>
  bg1 h10 fun h11 =>
  ld .p (Pl.mk b2 0) h11 fun x6 =>
  sha_Digest_Write.C x6 y3.1 h11 fun h14 =>
  kn1 h14) (fun d1 h12 =>
  ld .p (Pl.mk b2 0) h12 fun x7 =>
  sha_Digest_Sum.C x7 h12 fun x8 h15 =>
  st (.ar 32 .u8) (Pl.mk b1 0) x8 h15 fun h16 =>
  lv (d1 :: []) h16 fun h17 =>
  ld (.ar 32 .u8) (Pl.mk b1 0) h17 fun x9 =>
  K x9 0 h17) fun d2 h13 =>
  lv (d2 :: []) h13 fun h18 =>
  ld (.ar 32 .u8) (Pl.mk b1 0) h18 fun x10 =>
  K x10 y2.2.1 h18) (0, 0, 0, ()) h2
theorem tag_Sum.e (a0_tag : Int) (a1_parts : Slc) (h : Heap) (K : Kd.Ty (Kd.ar 32 .u8) → Int → Heap → Prop) : tag_Sum.m a0_tag a1_parts h K = fnC Try.prog tys [(4, [(16, .b)]), (22, [(6, .i), (5, .i), (20, .i)]), (4194304055, [(36, .s)])] Try.f53 [⟨.i, a0_tag⟩, ⟨.sl, a1_parts⟩] (.tp (.pr (.ar 32 .u8) (.pr .i .un))) h (fun x h => K x.1 x.2.1 h) := by kernel_rfl
theorem tag_Sum.c (a0_tag : Int) (a1_parts : Slc) {h : Heap} {K : Kd.Ty (Kd.ar 32 .u8) → Int → Heap → Prop} (hm : tag_Sum.m a0_tag a1_parts h K) : tag_Sum.C a0_tag a1_parts h K := fn_sound (an := [(4, [(16, .b)]), (22, [(6, .i), (5, .i), (20, .i)]), (4194304055, [(36, .s)])]) tysOk tysPl follows (f := 53) (fn := Try.f53) (args := [⟨.i, a0_tag⟩, ⟨.sl, a1_parts⟩]) (by kernel_rfl) (by kernel_rfl) ((tag_Sum.e a0_tag a1_parts h K) ▸ hm)
def journal_sealed.m (a0_prev : Kd.Ty (Kd.ar 32 .u8)) (a1_seq : Int) (a2_r : Kd.Ty (Kd.ag (.pr .i (.pr .s .un)))) (h : Heap) (K : Kd.Ty (Kd.ar 32 .u8) → ByteArray → Bool → Heap → Prop) : Prop :=
  new 62 (.ar 32 .u8) a0_prev h fun b1 h1 =>
  new 34 (.ag (.pr .i (.pr .s .un))) a2_r h1 fun b2 h2 =>
  new 62 (.ar 32 .u8) (Vector.replicate 32 0) h2 fun b3 h3 =>
  ld (.ag (.pr .i (.pr .s .un))) (Pl.mk b2 0) h3 fun x1 =>
  journal_body.C a1_seq x1 h3 fun x2 x3 x4 h4 =>
  if (!x4) = true then (st (.ar 32 .u8) (Pl.mk b3 0) (Vector.replicate 32 (0 : UInt8)) h4 fun h5 =>
  ld (.ar 32 .u8) (Pl.mk b3 0) h5 fun x5 =>
  K x5 ⟨#[]⟩ false h5)
  else jn (.pr .l .un) (fun J1 =>
  sla (Pl.mk b1 0) 32 0 32 1 fun s1 =>
  b2s s1 h4 fun s2 q1 =>
  sls x3 0 1 fun s3 =>
  ld .s ((Pl.mk b2 0).fld 1) h4 fun x6 =>
  (bs 9 .s [s2, x2, s3, x6] h4 fun s4 h7 =>
  (tag_Sum.C 4 s4 h7 fun x7 x8 h8 =>
  new 62 (.ar 32 .u8) (Vector.replicate 32 0) h8 fun b4 h9 =>
  st (.ar 32 .u8) (Pl.mk b4 0) x7 h9 fun h10 =>
  J1 ((Pl.mk b4 0), ()) h10) ∧
  new 62 (.ar 32 .u8) (Vector.replicate 32 0) h7 fun b5 h11 =>
  tag_Sum.C 4 s4 h11 fun x9 x10 h12 =>
  st (.ar 32 .u8) (Pl.mk b5 0) x9 h12 fun h13 =>
  J1 ((Pl.mk b5 0), ()) h13) ∧
  new 62 (.ar 32 .u8) (Vector.replicate 32 0) h4 fun b6 h14 =>
  sm .s ((Pl.mk b2 0).fld 1) x6 h14 ∧ stq q1 h14 (
  bs 9 .s [s2, x2, s3, x6] h14 fun s5 h15 =>
  tag_Sum.C 4 s5 h15 fun x11 x12 h16 =>
  st (.ar 32 .u8) (Pl.mk b6 0) x11 h16 fun h17 =>
  J1 ((Pl.mk b6 0), ()) h17)) fun y1 h6 =>
  sadd (⟨#[65, 74]⟩ : ByteArray) x2 fun s6 =>
  sadd s6 x3 fun s7 =>
  sla y1.1 32 0 32 1 fun s8 =>
  b2s s8 h6 fun s9 q2 =>
  sadd s7 s9 fun s10 =>
  jn (.pr .s (.pr .b .un)) (fun J2 =>
  ld (.ar 32 .u8) y1.1 h6 fun x13 =>
  (64 : Int) ≠ 0 ∧
  (64 : Int) ≠ 0 ∧
  (mk 5 .u8 1 ((w64 (64 - ((s10.size : Int).tmod 64))).tmod 64) ((w64 (64 - ((s10.size : Int).tmod 64))).tmod 64) h6 fun s11 h19 =>
  sm (.ar 32 .u8) y1.1 x13 h19 ∧ 
  b2s s11 h19 fun s12 q3 =>
  sadd s10 s12 fun s13 =>
  st (.ar 32 .u8) (Pl.mk b3 0) x13 h19 fun h20 =>
  stq q3 h20 (
  J2 (s13, true, ()) h20)) ∧
  st (.ar 32 .u8) (Pl.mk b3 0) x13 h6 fun h21 =>
  mk 5 .u8 1 ((w64 (64 - ((s10.size : Int).tmod 64))).tmod 64) ((w64 (64 - ((s10.size : Int).tmod 64))).tmod 64) h21 fun s14 h22 =>
  b2s s14 h22 fun s15 q4 =>
  sadd s10 s15 fun s16 =>
  J2 (s16, true, ()) h22) fun y2 h18 =>
  ld (.ar 32 .u8) (Pl.mk b3 0) h18 fun x14 =>
  K x14 y2.1 y2.2.1 h18
theorem journal_sealed.e (a0_prev : Kd.Ty (Kd.ar 32 .u8)) (a1_seq : Int) (a2_r : Kd.Ty (Kd.ag (.pr .i (.pr .s .un)))) (h : Heap) (K : Kd.Ty (Kd.ar 32 .u8) → ByteArray → Bool → Heap → Prop) : journal_sealed.m a0_prev a1_seq a2_r h K = fnC Try.prog tys [(16, [(12, .l)]), (24, [(7, .s), (8, .b)])] Try.f40 [⟨(.ar 32 .u8), a0_prev⟩, ⟨.i, a1_seq⟩, ⟨(.ag (.pr .i (.pr .s .un))), a2_r⟩] (.tp (.pr (.ar 32 .u8) (.pr .s (.pr .b .un)))) h (fun x h => K x.1 x.2.1 x.2.2.1 h) := by kernel_rfl
theorem journal_sealed.c (a0_prev : Kd.Ty (Kd.ar 32 .u8)) (a1_seq : Int) (a2_r : Kd.Ty (Kd.ag (.pr .i (.pr .s .un)))) {h : Heap} {K : Kd.Ty (Kd.ar 32 .u8) → ByteArray → Bool → Heap → Prop} (hm : journal_sealed.m a0_prev a1_seq a2_r h K) : journal_sealed.C a0_prev a1_seq a2_r h K := fn_sound (an := [(16, [(12, .l)]), (24, [(7, .s), (8, .b)])]) tysOk tysPl follows (f := 40) (fn := Try.f40) (args := [⟨(.ar 32 .u8), a0_prev⟩, ⟨.i, a1_seq⟩, ⟨(.ag (.pr .i (.pr .s .un))), a2_r⟩]) (by kernel_rfl) (by kernel_rfl) ((journal_sealed.e a0_prev a1_seq a2_r h K) ▸ hm)
def journal_Journal_took.m (a0_j : Option Pl) (a1_h : Kd.Ty (Kd.ar 32 .u8)) (a2_many : Int) (h : Heap) (K : Heap → Prop) : Prop :=
  new 62 (.ar 32 .u8) a1_h h fun b1 h1 =>
  ld (.ar 32 .u8) (Pl.mk b1 0) h1 fun x1 =>
  nck a0_j fun l1 =>
  ld .i (l1.fld 1) h1 fun x2 =>
  nck a0_j fun l2 =>
  ld .i (l2.fld 2) h1 fun x3 =>
  nck a0_j fun l3 =>
  st (.ar 32 .u8) (l3.fld 3) x1 h1 fun h2 =>
  nck a0_j fun l4 =>
  st .i (l4.fld 1) (w64 (x2 + 1)) h2 fun h3 =>
  nck a0_j fun l5 =>
  st .i (l5.fld 2) (w64 (x3 + a2_many)) h3 fun h4 =>
  K h4
theorem journal_Journal_took.e (a0_j : Option Pl) (a1_h : Kd.Ty (Kd.ar 32 .u8)) (a2_many : Int) (h : Heap) (K : Heap → Prop) : journal_Journal_took.m a0_j a1_h a2_many h K = fnC Try.prog tys [] Try.f42 [⟨.p, a0_j⟩, ⟨(.ar 32 .u8), a1_h⟩, ⟨.i, a2_many⟩] .un h (fun _ h => K h) := by kernel_rfl
theorem journal_Journal_took.c (a0_j : Option Pl) (a1_h : Kd.Ty (Kd.ar 32 .u8)) (a2_many : Int) {h : Heap} {K : Heap → Prop} (hm : journal_Journal_took.m a0_j a1_h a2_many h K) : journal_Journal_took.C a0_j a1_h a2_many h K := fn_sound (an := []) tysOk tysPl follows (f := 42) (fn := Try.f42) (args := [⟨.p, a0_j⟩, ⟨(.ar 32 .u8), a1_h⟩, ⟨.i, a2_many⟩]) (by kernel_rfl) (by kernel_rfl) ((journal_Journal_took.e a0_j a1_h a2_many h K) ▸ hm)
def disk_Disk_Read.m (a0_d : Option Pl) (a1_at : Int) (h : Heap) (K : ByteArray → Int → Heap → Prop) : Prop :=
  jn .un (fun J1 =>
  if (decide (a0_d = none)) = true then K ⟨#[]⟩ 1 h
  else jn (.pr .b .un) (fun J2 =>
  if (decide (a1_at < 0)) = true then J2 (true, ()) h
  else nck a0_d fun l1 =>
  ld .sl (l1.fld 0) h fun x1 =>
  J2 (decide (a1_at ≥ (x1.len : Int)), ()) h) fun y2 h2 =>
  if y2.1 = true then K ⟨#[]⟩ 700 h2
  else J1 (()) h2) fun y1 h1 =>
  nck a0_d fun l2 =>
  ld .m (l2.fld 1) h1 fun x2 =>
  lk .i .s x2 a1_at h1 fun r1 q1 =>
  if r1.isSome = true then K (r1.getD (⟨#[]⟩ : ByteArray)) 0 h1
  else nck a0_d fun l3 =>
  ld .sl (l3.fld 0) h1 fun x3 =>
  ix x3 a1_at 1 fun l4 =>
  ld .s l4 h1 fun x4 =>
  K x4 0 h1
theorem disk_Disk_Read.e (a0_d : Option Pl) (a1_at : Int) (h : Heap) (K : ByteArray → Int → Heap → Prop) : disk_Disk_Read.m a0_d a1_at h K = fnC Try.prog tys [(3, []), (12, [(11, .b)])] Try.f29 [⟨.p, a0_d⟩, ⟨.i, a1_at⟩] (.tp (.pr .s (.pr .i .un))) h (fun x h => K x.1 x.2.1 h) := by kernel_rfl
theorem disk_Disk_Read.c (a0_d : Option Pl) (a1_at : Int) {h : Heap} {K : ByteArray → Int → Heap → Prop} (hm : disk_Disk_Read.m a0_d a1_at h K) : disk_Disk_Read.C a0_d a1_at h K := fn_sound (an := [(3, []), (12, [(11, .b)])]) tysOk tysPl follows (f := 29) (fn := Try.f29) (args := [⟨.p, a0_d⟩, ⟨.i, a1_at⟩]) (by kernel_rfl) (by kernel_rfl) ((disk_Disk_Read.e a0_d a1_at h K) ▸ hm)
def journal_Journal_sectors.m (a0_j : Option Pl) (a1_at : Int) (a2_many : Int) (h : Heap) (K : ByteArray → Bool → Heap → Prop) : Prop :=
  lp (.pr .s (.pr .i .un)) (fun y1 h1 next1 =>
  if (decide (y1.2.1 < a2_many)) = true then (nck a0_j fun l1 =>
  ld .p (l1.fld 0) h1 fun x1 =>
  disk_Disk_Read.C x1 (w64 (a1_at + y1.2.1)) h1 fun x2 x3 h2 =>
  if (!(decide (x3 = (0 : Int)))) = true then K ⟨#[]⟩ false h2
  else sadd y1.1 x2 fun s1 =>
  next1 (s1, w64 (y1.2.1 + 1), ()) h2)
  else K y1.1 true h1) (⟨#[]⟩, 0, ()) h
theorem journal_Journal_sectors.e (a0_j : Option Pl) (a1_at : Int) (a2_many : Int) (h : Heap) (K : ByteArray → Bool → Heap → Prop) : journal_Journal_sectors.m a0_j a1_at a2_many h K = fnC Try.prog tys [(14, [(8, .s), (13, .i)])] Try.f62 [⟨.p, a0_j⟩, ⟨.i, a1_at⟩, ⟨.i, a2_many⟩] (.tp (.pr .s (.pr .b .un))) h (fun x h => K x.1 x.2.1 h) := by kernel_rfl
theorem journal_Journal_sectors.c (a0_j : Option Pl) (a1_at : Int) (a2_many : Int) {h : Heap} {K : ByteArray → Bool → Heap → Prop} (hm : journal_Journal_sectors.m a0_j a1_at a2_many h K) : journal_Journal_sectors.C a0_j a1_at a2_many h K := fn_sound (an := [(14, [(8, .s), (13, .i)])]) tysOk tysPl follows (f := 62) (fn := Try.f62) (args := [⟨.p, a0_j⟩, ⟨.i, a1_at⟩, ⟨.i, a2_many⟩]) (by kernel_rfl) (by kernel_rfl) ((journal_Journal_sectors.e a0_j a1_at a2_many h K) ▸ hm)
def wire_Open.m (a0_s : ByteArray) (h : Heap) (K : Option Pl → Heap → Prop) : Prop :=
  new 142 (.ag (.pr .s .un)) (a0_s, ()) h fun b1 h1 =>
  K (some (Pl.mk b1 0)) h1
theorem wire_Open.e (a0_s : ByteArray) (h : Heap) (K : Option Pl → Heap → Prop) : wire_Open.m a0_s h K = fnC Try.prog tys [] Try.f63 [⟨.s, a0_s⟩] .p h (K) := by kernel_rfl
theorem wire_Open.c (a0_s : ByteArray) {h : Heap} {K : Option Pl → Heap → Prop} (hm : wire_Open.m a0_s h K) : wire_Open.C a0_s h K := fn_sound (an := []) tysOk tysPl follows (f := 63) (fn := Try.f63) (args := [⟨.s, a0_s⟩]) (by kernel_rfl) (by kernel_rfl) ((wire_Open.e a0_s h K) ▸ hm)
def wire_Reader_cut.m (a0_r : Option Pl) (a1_n : Int) (h : Heap) (K : ByteArray → Bool → Heap → Prop) : Prop :=
  nck a0_r fun l1 =>
  ld .s (l1.fld 0) h fun x1 =>
  if (decide (a1_n > (x1.size : Int))) = true then K ⟨#[]⟩ false h
  else nck a0_r fun l2 =>
  ld .s (l2.fld 0) h fun x2 =>
  sls x2 0 a1_n fun s1 =>
  nck a0_r fun l3 =>
  ld .s (l3.fld 0) h fun x3 =>
  sls x3 a1_n (x3.size : Int) fun s2 =>
  nck a0_r fun l4 =>
  st .s (l4.fld 0) s2 h fun h1 =>
  K s1 true h1
theorem wire_Reader_cut.e (a0_r : Option Pl) (a1_n : Int) (h : Heap) (K : ByteArray → Bool → Heap → Prop) : wire_Reader_cut.m a0_r a1_n h K = fnC Try.prog tys [] Try.f79 [⟨.p, a0_r⟩, ⟨.i, a1_n⟩] (.tp (.pr .s (.pr .b .un))) h (fun x h => K x.1 x.2.1 h) := by kernel_rfl
theorem wire_Reader_cut.c (a0_r : Option Pl) (a1_n : Int) {h : Heap} {K : ByteArray → Bool → Heap → Prop} (hm : wire_Reader_cut.m a0_r a1_n h K) : wire_Reader_cut.C a0_r a1_n h K := fn_sound (an := []) tysOk tysPl follows (f := 79) (fn := Try.f79) (args := [⟨.p, a0_r⟩, ⟨.i, a1_n⟩]) (by kernel_rfl) (by kernel_rfl) ((wire_Reader_cut.e a0_r a1_n h K) ▸ hm)
def wire_Reader_Num.m (a0_r : Option Pl) (a1_size : Int) (h : Heap) (K : Int → Int → Heap → Prop) : Prop :=
  if (decide (a0_r = none)) = true then K 0 1 h
  else wire_sized.C a1_size h fun x1 h1 =>
  if (!x1) = true then K 0 301 h1
  else wire_Reader_cut.C a0_r a1_size h1 fun x2 x3 h2 =>
  if (!x3) = true then K 0 300 h2
  else lp (.pr .i (.pr .i .un)) (fun y1 h3 next1 =>
  if (decide (y1.2.1 < (x2.size : Int))) = true then (0 ≤ (((8 : UInt64).toNat : Int) : Int) ∧
  ixs x2 y1.2.1 fun c1 =>
  next1 (orI (shlI y1.1 ((8 : UInt64).toNat : Int)) (c1.toNat : Int), w64 (y1.2.1 + 1), ()) h3)
  else K y1.1 0 h3) (0, 0, ()) h2
theorem wire_Reader_Num.e (a0_r : Option Pl) (a1_size : Int) (h : Heap) (K : Int → Int → Heap → Prop) : wire_Reader_Num.m a0_r a1_size h K = fnC Try.prog tys [(42, [(8, .i), (27, .i)])] Try.f64 [⟨.p, a0_r⟩, ⟨.i, a1_size⟩] (.tp (.pr .i (.pr .i .un))) h (fun x h => K x.1 x.2.1 h) := by kernel_rfl
theorem wire_Reader_Num.c (a0_r : Option Pl) (a1_size : Int) {h : Heap} {K : Int → Int → Heap → Prop} (hm : wire_Reader_Num.m a0_r a1_size h K) : wire_Reader_Num.C a0_r a1_size h K := fn_sound (an := [(42, [(8, .i), (27, .i)])]) tysOk tysPl follows (f := 64) (fn := Try.f64) (args := [⟨.p, a0_r⟩, ⟨.i, a1_size⟩]) (by kernel_rfl) (by kernel_rfl) ((wire_Reader_Num.e a0_r a1_size h K) ▸ hm)
def journal_Journal_read.m (a0_j : Option Pl) (h : Heap) (K : Kd.Ty (Kd.ag (.pr .i (.pr .s .un))) → Bool → Heap → Prop) : Prop :=
  new 34 (.ag (.pr .i (.pr .s .un))) (0, (⟨#[]⟩, ())) h fun b1 h1 =>
  nck a0_j fun l1 =>
  ld .i (l1.fld 2) h1 fun x1 =>
  journal_Journal_sectors.C a0_j x1 1 h1 fun x2 x3 h2 =>
  if (!x3) = true then (st (.ag (.pr .i (.pr .s .un))) (Pl.mk b1 0) (0, (⟨#[]⟩, ())) h2 fun h3 =>
  ld (.ag (.pr .i (.pr .s .un))) (Pl.mk b1 0) h3 fun x4 =>
  K x4 false h3)
  else sls x2 6 9 fun s1 =>
  wire_Open.C s1 h2 fun x5 h4 =>
  wire_Reader_Num.C x5 1 h4 fun x6 x7 h5 =>
  wire_Reader_Num.C x5 2 h5 fun x8 x9 h6 =>
  (64 : Int) ≠ 0 ∧
  nck a0_j fun l2 =>
  ld .i (l2.fld 2) h6 fun x10 =>
  journal_Journal_sectors.C a0_j x10 (w64 ((w64 ((w64 ((w64 ((w64 (9 + x8)) + 32)) + 64)) - 1)).tdiv 64)) h6 fun x11 x12 h7 =>
  if (!x12) = true then (st (.ag (.pr .i (.pr .s .un))) (Pl.mk b1 0) (0, (⟨#[]⟩, ())) h7 fun h8 =>
  ld (.ag (.pr .i (.pr .s .un))) (Pl.mk b1 0) h8 fun x13 =>
  K x13 false h8)
  else sls x11 9 (w64 (9 + x8)) fun s2 =>
  new 34 (.ag (.pr .i (.pr .s .un))) (0, (⟨#[]⟩, ())) h7 fun b2 h9 =>
  st (.ag (.pr .i (.pr .s .un))) (Pl.mk b2 0) (x6, (s2, ())) h9 fun h10 =>
  jn (.pr .l (.pr .s (.pr .b .un))) (fun J1 =>
  nck a0_j fun l3 =>
  ld (.ar 32 .u8) (l3.fld 3) h10 fun x14 =>
  nck a0_j fun l4 =>
  ld .i (l4.fld 1) h10 fun x15 =>
  ld (.ag (.pr .i (.pr .s .un))) (Pl.mk b2 0) h10 fun x16 =>
  (journal_sealed.C x14 x15 x16 h10 fun x17 x18 x19 h12 =>
  new 62 (.ar 32 .u8) (Vector.replicate 32 0) h12 fun b3 h13 =>
  st (.ar 32 .u8) (Pl.mk b3 0) x17 h13 fun h14 =>
  J1 ((Pl.mk b3 0), x18, x19, ()) h14) ∧
  new 62 (.ar 32 .u8) (Vector.replicate 32 0) h10 fun b4 h15 =>
  sm (.ag (.pr .i (.pr .s .un))) (Pl.mk b2 0) x16 h15 ∧ sm .i (l4.fld 1) x15 h15 ∧ sm (.ar 32 .u8) (l3.fld 3) x14 h15 ∧ 
  journal_sealed.C x14 x15 x16 h15 fun x20 x21 x22 h16 =>
  st (.ar 32 .u8) (Pl.mk b4 0) x20 h16 fun h17 =>
  J1 ((Pl.mk b4 0), x21, x22, ()) h17) fun y1 h11 =>
  jn (.pr .b .un) (fun J2 =>
  if (!y1.2.2.1) = true then J2 (true, ()) h11
  else J2 (!(decide (y1.2.1 = x11)), ()) h11) fun y2 h18 =>
  if y2.1 = true then (st (.ag (.pr .i (.pr .s .un))) (Pl.mk b1 0) (0, (⟨#[]⟩, ())) h18 fun h19 =>
  ld (.ag (.pr .i (.pr .s .un))) (Pl.mk b1 0) h19 fun x23 =>
  K x23 false h19)
  else ld (.ar 32 .u8) y1.1 h18 fun x24 =>
  journal_Journal_took.C a0_j x24 (w64 ((w64 ((w64 ((w64 ((w64 (9 + x8)) + 32)) + 64)) - 1)).tdiv 64)) h18 fun h20 =>
  ld (.ag (.pr .i (.pr .s .un))) (Pl.mk b2 0) h20 fun x25 =>
  st (.ag (.pr .i (.pr .s .un))) (Pl.mk b1 0) x25 h20 fun h21 =>
  ld (.ag (.pr .i (.pr .s .un))) (Pl.mk b1 0) h21 fun x26 =>
  K x26 true h21
theorem journal_Journal_read.e (a0_j : Option Pl) (h : Heap) (K : Kd.Ty (Kd.ag (.pr .i (.pr .s .un))) → Bool → Heap → Prop) : journal_Journal_read.m a0_j h K = fnC Try.prog tys [(48, [(14, .l), (15, .s), (5, .b)]), (52, [(86, .b)])] Try.f51 [⟨.p, a0_j⟩] (.tp (.pr (.ag (.pr .i (.pr .s .un))) (.pr .b .un))) h (fun x h => K x.1 x.2.1 h) := by kernel_rfl
theorem journal_Journal_read.c (a0_j : Option Pl) {h : Heap} {K : Kd.Ty (Kd.ag (.pr .i (.pr .s .un))) → Bool → Heap → Prop} (hm : journal_Journal_read.m a0_j h K) : journal_Journal_read.C a0_j h K := fn_sound (an := [(48, [(14, .l), (15, .s), (5, .b)]), (52, [(86, .b)])]) tysOk tysPl follows (f := 51) (fn := Try.f51) (args := [⟨.p, a0_j⟩]) (by kernel_rfl) (by kernel_rfl) ((journal_Journal_read.e a0_j h K) ▸ hm)
def journal_Journal_records_c1.m (a0_yield : Value) (c0 : Pl) (h : Heap) (K : Heap → Prop) : Prop :=
  ld .p c0 h fun x1 =>
  journal_Journal_read.C x1 h fun x2 x3 h1 =>
  new 34 (.ag (.pr .i (.pr .s .un))) (0, (⟨#[]⟩, ())) h1 fun b1 h2 =>
  st (.ag (.pr .i (.pr .s .un))) (Pl.mk b1 0) x2 h2 fun h3 =>
  lp (.pr .l (.pr .b .un)) (fun y1 h4 next1 =>
  if y1.2.1 = true then (ld (.ag (.pr .i (.pr .s .un))) y1.1 h4 fun x4 =>
  callV Try.prog a0_yield [(Kd.ag (.pr .i (.pr .s .un))).val x4] .b h4 fun x5 h5 =>
  if (!x5) = true then K h5
  else ld (.ag (.pr .i (.pr .s .un))) y1.1 h5 fun x6 =>
  new 34 (.ag (.pr .i (.pr .s .un))) (0, (⟨#[]⟩, ())) h5 fun b2 h6 =>
  st (.ag (.pr .i (.pr .s .un))) (Pl.mk b2 0) x6 h6 fun h7 =>
  ld .p c0 h7 fun x7 =>
  journal_Journal_read.C x7 h7 fun x8 x9 h8 =>
  st (.ag (.pr .i (.pr .s .un))) (Pl.mk b2 0) x8 h8 fun h9 =>
  next1 ((Pl.mk b2 0), x9, ()) h9)
  else K h4) ((Pl.mk b1 0), x3, ()) h3
theorem journal_Journal_records_c1.e (a0_yield : Value) (c0 : Pl) (h : Heap) (K : Heap → Prop) : journal_Journal_records_c1.m a0_yield c0 h K = fnC Try.prog tys [(6, [(3, .l), (4, .b)])] Try.f50 [⟨.f, a0_yield⟩, ⟨.p, some c0⟩] .un h (fun _ h => K h) := by kernel_rfl
theorem journal_Journal_records_c1.c (a0_yield : Value) (c0 : Pl) {h : Heap} {K : Heap → Prop} (hm : journal_Journal_records_c1.m a0_yield c0 h K) : journal_Journal_records_c1.C a0_yield c0 h K := fn_sound (an := [(6, [(3, .l), (4, .b)])]) tysOk tysPl follows (f := 50) (fn := Try.f50) (args := [⟨.f, a0_yield⟩, ⟨.p, some c0⟩]) (by kernel_rfl) (by kernel_rfl) ((journal_Journal_records_c1.e a0_yield c0 h K) ▸ hm)
def journal_Journal_records.m (a0_j : Option Pl) (h : Heap) (K : Value → Heap → Prop) : Prop :=
  new 28 .p a0_j h fun b1 h1 =>
  K (.func (.func 50) #[] #[Kd.p.val (some (Pl.mk b1 0))]) h1
theorem journal_Journal_records.e (a0_j : Option Pl) (h : Heap) (K : Value → Heap → Prop) : journal_Journal_records.m a0_j h K = fnC Try.prog tys [] Try.f37 [⟨.p, a0_j⟩] .f h (K) := by kernel_rfl
theorem journal_Journal_records.c (a0_j : Option Pl) {h : Heap} {K : Value → Heap → Prop} (hm : journal_Journal_records.m a0_j h K) : journal_Journal_records.C a0_j h K := fn_sound (an := []) tysOk tysPl follows (f := 37) (fn := Try.f37) (args := [⟨.p, a0_j⟩]) (by kernel_rfl) (by kernel_rfl) ((journal_Journal_records.e a0_j h K) ▸ hm)
def disk_Disk_Write.m (a0_d : Option Pl) (a1_at : Int) (a2_s : ByteArray) (h : Heap) (K : Int → Heap → Prop) : Prop :=
  jn .un (fun J1 =>
  if (decide (a0_d = none)) = true then K 1 h
  else jn (.pr .b .un) (fun J2 =>
  if (decide (a1_at < 0)) = true then J2 (true, ()) h
  else nck a0_d fun l1 =>
  ld .sl (l1.fld 0) h fun x1 =>
  if (decide (a1_at ≥ (x1.len : Int))) = true then J2 (true, ()) h
  else J2 (!(decide ((a2_s.size : Int) = (64 : Int))), ()) h) fun y2 h2 =>
  if y2.1 = true then K 700 h2
  else J1 (()) h2) fun y1 h1 =>
  nck a0_d fun l2 =>
  ld .m (l2.fld 1) h1 fun x2 =>
  mu .i .s x2 a1_at a2_s h1 fun h3 =>
  K 0 h3
theorem disk_Disk_Write.e (a0_d : Option Pl) (a1_at : Int) (a2_s : ByteArray) (h : Heap) (K : Int → Heap → Prop) : disk_Disk_Write.m a0_d a1_at a2_s h K = fnC Try.prog tys [(3, []), (12, [(10, .b)])] Try.f24 [⟨.p, a0_d⟩, ⟨.i, a1_at⟩, ⟨.s, a2_s⟩] .i h (K) := by kernel_rfl
theorem disk_Disk_Write.c (a0_d : Option Pl) (a1_at : Int) (a2_s : ByteArray) {h : Heap} {K : Int → Heap → Prop} (hm : disk_Disk_Write.m a0_d a1_at a2_s h K) : disk_Disk_Write.C a0_d a1_at a2_s h K := fn_sound (an := [(3, []), (12, [(10, .b)])]) tysOk tysPl follows (f := 24) (fn := Try.f24) (args := [⟨.p, a0_d⟩, ⟨.i, a1_at⟩, ⟨.s, a2_s⟩]) (by kernel_rfl) (by kernel_rfl) ((disk_Disk_Write.e a0_d a1_at a2_s h K) ▸ hm)
def disk_Disk_Sync.m (a0_d : Option Pl) (h : Heap) (K : Int → Heap → Prop) : Prop :=
  if (decide (a0_d = none)) = true then K 1 h
  else nck a0_d fun l1 =>
  ld .m (l1.fld 1) h fun x1 =>
  rng x1 h fun b1 h1 =>
  lp .un (fun y1 h2 next1 =>
  nx .i .s b1 h2 (fun h3 =>
  nck a0_d fun l2 =>
  ld .m (l2.fld 1) h3 fun x2 =>
  mclr x2 h3 fun h5 =>
  K 0 h5) fun k1 e1 h4 =>
  en .i .s b1 h4 fun k2 e2 =>
  nck a0_d fun l3 =>
  ld .sl (l3.fld 0) h4 fun x3 =>
  ix x3 k2 1 fun l4 =>
  st .s l4 e2 h4 fun h6 =>
  next1 (()) h6) (()) h1
theorem disk_Disk_Sync.e (a0_d : Option Pl) (h : Heap) (K : Int → Heap → Prop) : disk_Disk_Sync.m a0_d h K = fnC Try.prog tys [(18, [])] Try.f39 [⟨.p, a0_d⟩] .i h (K) := by kernel_rfl
theorem disk_Disk_Sync.c (a0_d : Option Pl) {h : Heap} {K : Int → Heap → Prop} (hm : disk_Disk_Sync.m a0_d h K) : disk_Disk_Sync.C a0_d h K := fn_sound (an := [(18, [])]) tysOk tysPl follows (f := 39) (fn := Try.f39) (args := [⟨.p, a0_d⟩]) (by kernel_rfl) (by kernel_rfl) ((disk_Disk_Sync.e a0_d h K) ▸ hm)
def disk_Disk_Sectors.m (a0_d : Option Pl) (h : Heap) (K : Int → Heap → Prop) : Prop :=
  if (decide (a0_d = none)) = true then K 0 h
  else nck a0_d fun l1 =>
  ld .sl (l1.fld 0) h fun x1 =>
  K (x1.len : Int) h
theorem disk_Disk_Sectors.e (a0_d : Option Pl) (h : Heap) (K : Int → Heap → Prop) : disk_Disk_Sectors.m a0_d h K = fnC Try.prog tys [] Try.f41 [⟨.p, a0_d⟩] .i h (K) := by kernel_rfl
theorem disk_Disk_Sectors.c (a0_d : Option Pl) {h : Heap} {K : Int → Heap → Prop} (hm : disk_Disk_Sectors.m a0_d h K) : disk_Disk_Sectors.C a0_d h K := fn_sound (an := []) tysOk tysPl follows (f := 41) (fn := Try.f41) (args := [⟨.p, a0_d⟩]) (by kernel_rfl) (by kernel_rfl) ((disk_Disk_Sectors.e a0_d h K) ▸ hm)
def journal_Journal_clean.m (a0_j : Option Pl) (h : Heap) (K : Heap → Prop) : Prop :=
  mk 5 .u8 1 64 64 h fun s1 h1 =>
  b2s s1 h1 fun s2 q1 =>
  nck a0_j fun l1 =>
  ld .i (l1.fld 2) h1 fun x1 =>
  lp (.pr .i .un) (fun y1 h2 next1 =>
  nck a0_j fun l2 =>
  ld .p (l2.fld 0) h2 fun x2 =>
  disk_Disk_Sectors.C x2 h2 fun x3 h3 =>
  if (decide (y1.1 < x3)) = true then (jn .un (fun J1 =>
  nck a0_j fun l3 =>
  ld .p (l3.fld 0) h3 fun x4 =>
  disk_Disk_Read.C x4 y1.1 h3 fun x5 x6 h5 =>
  jn .un (fun J2 =>
  if (!(decide (x5 = s2))) = true then (nck a0_j fun l4 =>
  ld .p (l4.fld 0) h5 fun x7 =>
  disk_Disk_Write.C x7 y1.1 s2 h5 fun x8 h7 =>
  J2 (()) h7)
  else J2 (()) h5) fun y3 h6 =>
  J1 (()) h6) fun y2 h4 =>
  next1 (w64 (y1.1 + 1), ()) h4)
  else nck a0_j fun l5 =>
  ld .p (l5.fld 0) h3 fun x9 =>
  disk_Disk_Sync.C x9 h3 fun x10 h8 =>
  K h8) (x1, ()) h1
theorem journal_Journal_clean.e (a0_j : Option Pl) (h : Heap) (K : Heap → Prop) : journal_Journal_clean.m a0_j h K = fnC Try.prog tys [(7, []), (10, [(3, .i)]), (25, [])] Try.f38 [⟨.p, a0_j⟩] .un h (fun _ h => K h) := by kernel_rfl
theorem journal_Journal_clean.c (a0_j : Option Pl) {h : Heap} {K : Heap → Prop} (hm : journal_Journal_clean.m a0_j h K) : journal_Journal_clean.C a0_j h K := fn_sound (an := [(7, []), (10, [(3, .i)]), (25, [])]) tysOk tysPl follows (f := 38) (fn := Try.f38) (args := [⟨.p, a0_j⟩]) (by kernel_rfl) (by kernel_rfl) ((journal_Journal_clean.e a0_j h K) ▸ hm)
def journal_Open.m (a0_d : Option Pl) (h : Heap) (K : Option Pl → Slc → Int → Heap → Prop) : Prop :=
  if (decide (a0_d = none)) = true then K none ⟨none, 0, 0⟩ 1 h
  else new 77 (.ag (.pr .p (.pr .i (.pr .i (.pr (.ar 32 .u8) .un))))) (a0_d, (0, (0, ((Vector.replicate 32 0), ())))) h fun b1 h1 =>
  new 22 .sl ⟨none, 0, 0⟩ h1 fun b2 h2 =>
  journal_Journal_records.C (some (Pl.mk b1 0)) h2 fun x1 h3 =>
  rf Try.prog x1 (Kd.Ty (.pr (.ag (.pr .i (.pr .s .un))) .un)) (fun z => [(Kd.ag (.pr .i (.pr .s .un))).val z.1]) h3 (fun y1 h4 bg1 kn1 kr1 =>
  new 34 (.ag (.pr .i (.pr .s .un))) (0, (⟨#[]⟩, ())) h4 fun b3 h8 =>
  st (.ag (.pr .i (.pr .s .un))) (Pl.mk b3 0) y1.1 h8 fun h9 =>
  bg1 h9 fun h5 =>
  ld .sl (Pl.mk b2 0) h5 fun x2 =>
  ld (.ag (.pr .i (.pr .s .un))) (Pl.mk b3 0) h5 fun x3 =>
  bs 34 (.ag (.pr .i (.pr .s .un))) [x3] h5 fun s1 h10 =>
  slCells s1 (s1.len * 2) h10 fun cs1 =>
  ap 34 (.ag (.pr .i (.pr .s .un))) 24 x2 s1.len cs1 h10 fun s2 h11 =>
  st .sl (Pl.mk b2 0) s2 h11 fun h12 =>
  kn1 h12) (fun d1 h6 =>
  journal_Journal_clean.C (some (Pl.mk b1 0)) h6 fun h13 =>
  ld .sl (Pl.mk b2 0) h13 fun x4 =>
  lv (d1 :: []) h13 fun h14 =>
  K (some (Pl.mk b1 0)) x4 0 h14) fun d2 h7 =>
  lv (d2 :: []) h7 fun h15 =>
  K none ⟨none, 0, 0⟩ 0 h15
theorem journal_Open.e (a0_d : Option Pl) (h : Heap) (K : Option Pl → Slc → Int → Heap → Prop) : journal_Open.m a0_d h K = fnC Try.prog tys [(4194304027, [(15, (.ag (.pr .i (.pr .s .un))))])] Try.f12 [⟨.p, a0_d⟩] (.tp (.pr .p (.pr .sl (.pr .i .un)))) h (fun x h => K x.1 x.2.1 x.2.2.1 h) := by kernel_rfl
theorem journal_Open.c (a0_d : Option Pl) {h : Heap} {K : Option Pl → Slc → Int → Heap → Prop} (hm : journal_Open.m a0_d h K) : journal_Open.C a0_d h K := fn_sound (an := [(4194304027, [(15, (.ag (.pr .i (.pr .s .un))))])]) tysOk tysPl follows (f := 12) (fn := Try.f12) (args := [⟨.p, a0_d⟩]) (by kernel_rfl) (by kernel_rfl) ((journal_Open.e a0_d h K) ▸ hm)
def law0_Num.m (a0_e : Int) (h : Heap) (K : Int → Heap → Prop) : Prop :=
  K a0_e h
theorem law0_Num.e (a0_e : Int) (h : Heap) (K : Int → Heap → Prop) : law0_Num.m a0_e h K = fnC Try.prog tys [] Try.f13 [⟨.i, a0_e⟩] .i h (K) := by kernel_rfl
theorem law0_Num.c (a0_e : Int) {h : Heap} {K : Int → Heap → Prop} (hm : law0_Num.m a0_e h K) : law0_Num.C a0_e h K := fn_sound (an := []) tysOk tysPl follows (f := 13) (fn := Try.f13) (args := [⟨.i, a0_e⟩]) (by kernel_rfl) (by kernel_rfl) ((law0_Num.e a0_e h K) ▸ hm)
def journal_Journal_Sync.m (a0_j : Option Pl) (h : Heap) (K : Int → Heap → Prop) : Prop :=
  if (decide (a0_j = none)) = true then K 1 h
  else nck a0_j fun l1 =>
  ld .p (l1.fld 0) h fun x1 =>
  disk_Disk_Sync.C x1 h fun x2 h1 =>
  K x2 h1
theorem journal_Journal_Sync.e (a0_j : Option Pl) (h : Heap) (K : Int → Heap → Prop) : journal_Journal_Sync.m a0_j h K = fnC Try.prog tys [] Try.f14 [⟨.p, a0_j⟩] .i h (K) := by kernel_rfl
theorem journal_Journal_Sync.c (a0_j : Option Pl) {h : Heap} {K : Int → Heap → Prop} (hm : journal_Journal_Sync.m a0_j h K) : journal_Journal_Sync.C a0_j h K := fn_sound (an := []) tysOk tysPl follows (f := 14) (fn := Try.f14) (args := [⟨.p, a0_j⟩]) (by kernel_rfl) (by kernel_rfl) ((journal_Journal_Sync.e a0_j h K) ▸ hm)
def journal_Journal_Append.m (a0_j : Option Pl) (a1_r : Kd.Ty (Kd.ag (.pr .i (.pr .s .un)))) (h : Heap) (K : Int → Heap → Prop) : Prop :=
  new 34 (.ag (.pr .i (.pr .s .un))) a1_r h fun b1 h1 =>
  if (decide (a0_j = none)) = true then K 1 h1
  else jn (.pr .l (.pr .s (.pr .b .un))) (fun J1 =>
  nck a0_j fun l1 =>
  ld (.ar 32 .u8) (l1.fld 3) h1 fun x1 =>
  nck a0_j fun l2 =>
  ld .i (l2.fld 1) h1 fun x2 =>
  ld (.ag (.pr .i (.pr .s .un))) (Pl.mk b1 0) h1 fun x3 =>
  (journal_sealed.C x1 x2 x3 h1 fun x4 x5 x6 h3 =>
  new 62 (.ar 32 .u8) (Vector.replicate 32 0) h3 fun b2 h4 =>
  st (.ar 32 .u8) (Pl.mk b2 0) x4 h4 fun h5 =>
  J1 ((Pl.mk b2 0), x5, x6, ()) h5) ∧
  new 62 (.ar 32 .u8) (Vector.replicate 32 0) h1 fun b3 h6 =>
  sm (.ag (.pr .i (.pr .s .un))) (Pl.mk b1 0) x3 h6 ∧ sm .i (l2.fld 1) x2 h6 ∧ sm (.ar 32 .u8) (l1.fld 3) x1 h6 ∧ 
  journal_sealed.C x1 x2 x3 h6 fun x7 x8 x9 h7 =>
  st (.ar 32 .u8) (Pl.mk b3 0) x7 h7 fun h8 =>
  J1 ((Pl.mk b3 0), x8, x9, ()) h8) fun y1 h2 =>
  (64 : Int) ≠ 0 ∧
  if (!y1.2.2.1) = true then K 800 h2
  else nck a0_j fun l3 =>
  ld .p (l3.fld 0) h2 fun x10 =>
  nck a0_j fun l4 =>
  ld .i (l4.fld 2) h2 fun x11 =>
  disk_Disk_Sectors.C x10 h2 fun x12 h9 =>
  sm .i (l4.fld 2) x11 h9 ∧ 
  if (decide ((w64 ((y1.2.1.size : Int).tdiv 64)) > (w64 (x12 - x11)))) = true then K 801 h9
  else lp (.pr .i .un) (fun y2 h10 next1 =>
  if (decide (y2.1 < (w64 ((y1.2.1.size : Int).tdiv 64)))) = true then (nck a0_j fun l5 =>
  ld .p (l5.fld 0) h10 fun x13 =>
  nck a0_j fun l6 =>
  ld .i (l6.fld 2) h10 fun x14 =>
  sls y1.2.1 (w64 (y2.1 * 64)) (w64 ((w64 (y2.1 + 1)) * 64)) fun s1 =>
  disk_Disk_Write.C x13 (w64 (x14 + y2.1)) s1 h10 fun x15 h11 =>
  next1 (w64 (y2.1 + 1), ()) h11)
  else ld (.ar 32 .u8) y1.1 h10 fun x16 =>
  journal_Journal_took.C a0_j x16 (w64 ((y1.2.1.size : Int).tdiv 64)) h10 fun h12 =>
  K 0 h12) (0, ()) h9
theorem journal_Journal_Append.e (a0_j : Option Pl) (a1_r : Kd.Ty (Kd.ag (.pr .i (.pr .s .un)))) (h : Heap) (K : Int → Heap → Prop) : journal_Journal_Append.m a0_j a1_r h K = fnC Try.prog tys [(12, [(5, .l), (6, .s), (7, .b)]), (42, [(46, .i)])] Try.f15 [⟨.p, a0_j⟩, ⟨(.ag (.pr .i (.pr .s .un))), a1_r⟩] .i h (K) := by kernel_rfl
theorem journal_Journal_Append.c (a0_j : Option Pl) (a1_r : Kd.Ty (Kd.ag (.pr .i (.pr .s .un)))) {h : Heap} {K : Int → Heap → Prop} (hm : journal_Journal_Append.m a0_j a1_r h K) : journal_Journal_Append.C a0_j a1_r h K := fn_sound (an := [(12, [(5, .l), (6, .s), (7, .b)]), (42, [(46, .i)])]) tysOk tysPl follows (f := 15) (fn := Try.f15) (args := [⟨.p, a0_j⟩, ⟨(.ag (.pr .i (.pr .s .un))), a1_r⟩]) (by kernel_rfl) (by kernel_rfl) ((journal_Journal_Append.e a0_j a1_r h K) ▸ hm)
def slices_AppendSeq_s_int_int.m (a0_s : Slc) (a1_seq : Value) (h : Heap) (K : Slc → Heap → Prop) : Prop :=
  new 84 .sl a0_s h fun b1 h1 =>
  rf Try.prog a1_seq (Kd.Ty (.pr .i .un)) (fun z => [Kd.i.val z.1]) h1 (fun y1 h2 bg1 kn1 kr1 =>
  bg1 h2 fun h3 =>
  ld .sl (Pl.mk b1 0) h3 fun x1 =>
  bs 3 .i [y1.1] h3 fun s1 h6 =>
  slCells s1 (s1.len * 1) h6 fun cs1 =>
  ap 3 .i 8 x1 s1.len cs1 h6 fun s2 h7 =>
  st .sl (Pl.mk b1 0) s2 h7 fun h8 =>
  kn1 h8) (fun d1 h4 =>
  ld .sl (Pl.mk b1 0) h4 fun x2 =>
  lv (d1 :: []) h4 fun h9 =>
  K x2 h9) fun d2 h5 =>
  lv (d2 :: []) h5 fun h10 =>
  K ⟨none, 0, 0⟩ h10
theorem slices_AppendSeq_s_int_int.e (a0_s : Slc) (a1_seq : Value) (h : Heap) (K : Slc → Heap → Prop) : slices_AppendSeq_s_int_int.m a0_s a1_seq h K = fnC Try.prog tys [(4194304011, [(7, .i)])] Try.f73 [⟨.sl, a0_s⟩, ⟨.f, a1_seq⟩] .sl h (K) := by kernel_rfl
theorem slices_AppendSeq_s_int_int.c (a0_s : Slc) (a1_seq : Value) {h : Heap} {K : Slc → Heap → Prop} (hm : slices_AppendSeq_s_int_int.m a0_s a1_seq h K) : slices_AppendSeq_s_int_int.C a0_s a1_seq h K := fn_sound (an := [(4194304011, [(7, .i)])]) tysOk tysPl follows (f := 73) (fn := Try.f73) (args := [⟨.sl, a0_s⟩, ⟨.f, a1_seq⟩]) (by kernel_rfl) (by kernel_rfl) ((slices_AppendSeq_s_int_int.e a0_s a1_seq h K) ▸ hm)
def slices_Collect_int.m (a0_seq : Value) (h : Heap) (K : Slc → Heap → Prop) : Prop :=
  slices_AppendSeq_s_int_int.C ⟨none, 0, 0⟩ a0_seq h fun x1 h1 =>
  K x1 h1
theorem slices_Collect_int.e (a0_seq : Value) (h : Heap) (K : Slc → Heap → Prop) : slices_Collect_int.m a0_seq h K = fnC Try.prog tys [] Try.f54 [⟨.f, a0_seq⟩] .sl h (K) := by kernel_rfl
theorem slices_Collect_int.c (a0_seq : Value) {h : Heap} {K : Slc → Heap → Prop} (hm : slices_Collect_int.m a0_seq h K) : slices_Collect_int.C a0_seq h K := fn_sound (an := []) tysOk tysPl follows (f := 54) (fn := Try.f54) (args := [⟨.f, a0_seq⟩]) (by kernel_rfl) (by kernel_rfl) ((slices_Collect_int.e a0_seq h K) ▸ hm)
def cmp_isNaN_int.m (a0_x : Int) (h : Heap) (K : Bool → Heap → Prop) : Prop :=
  K (!(decide (a0_x = a0_x))) h
theorem cmp_isNaN_int.e (a0_x : Int) (h : Heap) (K : Bool → Heap → Prop) : cmp_isNaN_int.m a0_x h K = fnC Try.prog tys [] Try.f103 [⟨.i, a0_x⟩] .b h (K) := by kernel_rfl
theorem cmp_isNaN_int.c (a0_x : Int) {h : Heap} {K : Bool → Heap → Prop} (hm : cmp_isNaN_int.m a0_x h K) : cmp_isNaN_int.C a0_x h K := fn_sound (an := []) tysOk tysPl follows (f := 103) (fn := Try.f103) (args := [⟨.i, a0_x⟩]) (by kernel_rfl) (by kernel_rfl) ((cmp_isNaN_int.e a0_x h K) ▸ hm)
def cmp_Less_int.m (a0_x : Int) (a1_y : Int) (h : Heap) (K : Bool → Heap → Prop) : Prop :=
  jn (.pr .b .un) (fun J1 =>
  cmp_isNaN_int.C a0_x h fun x1 h2 =>
  if x1 = true then (cmp_isNaN_int.C a1_y h2 fun x2 h3 =>
  if (!x2) = true then J1 (true, ()) h3
  else J1 (decide (a0_x < a1_y), ()) h3)
  else J1 (decide (a0_x < a1_y), ()) h2) fun y1 h1 =>
  K y1.1 h1
theorem cmp_Less_int.e (a0_x : Int) (a1_y : Int) (h : Heap) (K : Bool → Heap → Prop) : cmp_Less_int.m a0_x a1_y h K = fnC Try.prog tys [(4, [(4, .b)])] Try.f90 [⟨.i, a0_x⟩, ⟨.i, a1_y⟩] .b h (K) := by kernel_rfl
theorem cmp_Less_int.c (a0_x : Int) (a1_y : Int) {h : Heap} {K : Bool → Heap → Prop} (hm : cmp_Less_int.m a0_x a1_y h K) : cmp_Less_int.C a0_x a1_y h K := fn_sound (an := [(4, [(4, .b)])]) tysOk tysPl follows (f := 90) (fn := Try.f90) (args := [⟨.i, a0_x⟩, ⟨.i, a1_y⟩]) (by kernel_rfl) (by kernel_rfl) ((cmp_Less_int.e a0_x a1_y h K) ▸ hm)
def slices_insertionSortOrdered_int.m (a0_data : Slc) (a1_a : Int) (a2_b : Int) (h : Heap) (K : Heap → Prop) : Prop :=
  lp (.pr .i .un) (fun y1 h1 next1 =>
  if (decide (y1.1 < a2_b)) = true then (lp (.pr .i .un) (fun y2 h2 next2 =>
  jn (.pr .b .un) (fun J1 =>
  if (decide (y2.1 > a1_a)) = true then (ix a0_data y2.1 1 fun l1 =>
  ld .i l1 h2 fun x1 =>
  ix a0_data (w64 (y2.1 - 1)) 1 fun l2 =>
  ld .i l2 h2 fun x2 =>
  cmp_Less_int.C x1 x2 h2 fun x3 h4 =>
  J1 (x3, ()) h4)
  else J1 (false, ()) h2) fun y3 h3 =>
  if y3.1 = true then (ix a0_data (w64 (y2.1 - 1)) 1 fun l3 =>
  ld .i l3 h3 fun x4 =>
  ix a0_data y2.1 1 fun l4 =>
  ld .i l4 h3 fun x5 =>
  ix a0_data y2.1 1 fun l5 =>
  st .i l5 x4 h3 fun h5 =>
  ix a0_data (w64 (y2.1 - 1)) 1 fun l6 =>
  st .i l6 x5 h5 fun h6 =>
  next2 (w64 (y2.1 - 1), ()) h6)
  else next1 (w64 (y1.1 + 1), ()) h3) (y1.1, ()) h1)
  else K h1) (w64 (a1_a + 1), ()) h
theorem slices_insertionSortOrdered_int.e (a0_data : Slc) (a1_a : Int) (a2_b : Int) (h : Heap) (K : Heap → Prop) : slices_insertionSortOrdered_int.m a0_data a1_a a2_b h K = fnC Try.prog tys [(6, [(6, .i)]), (16, [(30, .b)]), (18, [(7, .i)])] Try.f84 [⟨.sl, a0_data⟩, ⟨.i, a1_a⟩, ⟨.i, a2_b⟩] .un h (fun _ h => K h) := by kernel_rfl
theorem slices_insertionSortOrdered_int.c (a0_data : Slc) (a1_a : Int) (a2_b : Int) {h : Heap} {K : Heap → Prop} (hm : slices_insertionSortOrdered_int.m a0_data a1_a a2_b h K) : slices_insertionSortOrdered_int.C a0_data a1_a a2_b h K := fn_sound (an := [(6, [(6, .i)]), (16, [(30, .b)]), (18, [(7, .i)])]) tysOk tysPl follows (f := 84) (fn := Try.f84) (args := [⟨.sl, a0_data⟩, ⟨.i, a1_a⟩, ⟨.i, a2_b⟩]) (by kernel_rfl) (by kernel_rfl) ((slices_insertionSortOrdered_int.e a0_data a1_a a2_b h K) ▸ hm)
def slices_siftDownOrdered_int.m (a0_data : Slc) (a1_lo : Int) (a2_hi : Int) (a3_first : Int) (h : Heap) (K : Heap → Prop) : Prop :=
  lp (.pr .i .un) (fun y1 h1 next1 =>
  jn (.pr .i .un) (fun J1 =>
  if (decide ((w64 ((w64 (2 * y1.1)) + 1)) ≥ a2_hi)) = true then K h1
  else jn (.pr .b .un) (fun J2 =>
  if (decide ((w64 ((w64 ((w64 (2 * y1.1)) + 1)) + 1)) < a2_hi)) = true then (ix a0_data (w64 (a3_first + (w64 ((w64 (2 * y1.1)) + 1)))) 1 fun l1 =>
  ld .i l1 h1 fun x1 =>
  ix a0_data (w64 ((w64 (a3_first + (w64 ((w64 (2 * y1.1)) + 1)))) + 1)) 1 fun l2 =>
  ld .i l2 h1 fun x2 =>
  cmp_Less_int.C x1 x2 h1 fun x3 h4 =>
  J2 (x3, ()) h4)
  else J2 (false, ()) h1) fun y3 h3 =>
  jn (.pr .i .un) (fun J3 =>
  if y3.1 = true then J3 (w64 ((w64 ((w64 (2 * y1.1)) + 1)) + 1), ()) h3
  else J3 (w64 ((w64 (2 * y1.1)) + 1), ()) h3) fun y4 h5 =>
  ix a0_data (w64 (a3_first + y1.1)) 1 fun l3 =>
  ld .i l3 h5 fun x4 =>
  ix a0_data (w64 (a3_first + y4.1)) 1 fun l4 =>
  ld .i l4 h5 fun x5 =>
  cmp_Less_int.C x4 x5 h5 fun x6 h6 =>
  if (!x6) = true then K h6
  else ix a0_data (w64 (a3_first + y4.1)) 1 fun l5 =>
  ld .i l5 h6 fun x7 =>
  ix a0_data (w64 (a3_first + y1.1)) 1 fun l6 =>
  ld .i l6 h6 fun x8 =>
  ix a0_data (w64 (a3_first + y1.1)) 1 fun l7 =>
  st .i l7 x7 h6 fun h7 =>
  ix a0_data (w64 (a3_first + y4.1)) 1 fun l8 =>
  st .i l8 x8 h7 fun h8 =>
  J1 (y4.1, ()) h8) fun y2 h2 =>
  next1 (y2.1, ()) h2) (a1_lo, ()) h
theorem slices_siftDownOrdered_int.e (a0_data : Slc) (a1_lo : Int) (a2_hi : Int) (a3_first : Int) (h : Heap) (K : Heap → Prop) : slices_siftDownOrdered_int.m a0_data a1_lo a2_hi a3_first h K = fnC Try.prog tys [(6, [(8, .i)]), (7, [(8, .i)]), (12, [(36, .b)]), (17, [(9, .i)])] Try.f98 [⟨.sl, a0_data⟩, ⟨.i, a1_lo⟩, ⟨.i, a2_hi⟩, ⟨.i, a3_first⟩] .un h (fun _ h => K h) := by kernel_rfl
theorem slices_siftDownOrdered_int.c (a0_data : Slc) (a1_lo : Int) (a2_hi : Int) (a3_first : Int) {h : Heap} {K : Heap → Prop} (hm : slices_siftDownOrdered_int.m a0_data a1_lo a2_hi a3_first h K) : slices_siftDownOrdered_int.C a0_data a1_lo a2_hi a3_first h K := fn_sound (an := [(6, [(8, .i)]), (7, [(8, .i)]), (12, [(36, .b)]), (17, [(9, .i)])]) tysOk tysPl follows (f := 98) (fn := Try.f98) (args := [⟨.sl, a0_data⟩, ⟨.i, a1_lo⟩, ⟨.i, a2_hi⟩, ⟨.i, a3_first⟩]) (by kernel_rfl) (by kernel_rfl) ((slices_siftDownOrdered_int.e a0_data a1_lo a2_hi a3_first h K) ▸ hm)
def slices_heapSortOrdered_int.m (a0_data : Slc) (a1_a : Int) (a2_b : Int) (h : Heap) (K : Heap → Prop) : Prop :=
  (2 : Int) ≠ 0 ∧
  lp (.pr .i .un) (fun y1 h1 next1 =>
  if (decide (y1.1 ≥ 0)) = true then (slices_siftDownOrdered_int.C a0_data y1.1 (w64 (a2_b - a1_a)) a1_a h1 fun h2 =>
  next1 (w64 (y1.1 - 1), ()) h2)
  else lp (.pr .i .un) (fun y2 h3 next2 =>
  if (decide (y2.1 ≥ 0)) = true then (ix a0_data (w64 (a1_a + y2.1)) 1 fun l1 =>
  ld .i l1 h3 fun x1 =>
  ix a0_data a1_a 1 fun l2 =>
  ld .i l2 h3 fun x2 =>
  ix a0_data a1_a 1 fun l3 =>
  st .i l3 x1 h3 fun h4 =>
  ix a0_data (w64 (a1_a + y2.1)) 1 fun l4 =>
  st .i l4 x2 h4 fun h5 =>
  slices_siftDownOrdered_int.C a0_data 0 y2.1 a1_a h5 fun h6 =>
  next2 (w64 (y2.1 - 1), ()) h6)
  else K h3) (w64 ((w64 (a2_b - a1_a)) - 1), ()) h1) (w64 ((w64 ((w64 (a2_b - a1_a)) - 1)).tdiv 2), ()) h
theorem slices_heapSortOrdered_int.e (a0_data : Slc) (a1_a : Int) (a2_b : Int) (h : Heap) (K : Heap → Prop) : slices_heapSortOrdered_int.m a0_data a1_a a2_b h K = fnC Try.prog tys [(18, [(9, .i)]), (34, [(10, .i)])] Try.f85 [⟨.sl, a0_data⟩, ⟨.i, a1_a⟩, ⟨.i, a2_b⟩] .un h (fun _ h => K h) := by kernel_rfl
theorem slices_heapSortOrdered_int.c (a0_data : Slc) (a1_a : Int) (a2_b : Int) {h : Heap} {K : Heap → Prop} (hm : slices_heapSortOrdered_int.m a0_data a1_a a2_b h K) : slices_heapSortOrdered_int.C a0_data a1_a a2_b h K := fn_sound (an := [(18, [(9, .i)]), (34, [(10, .i)])]) tysOk tysPl follows (f := 85) (fn := Try.f85) (args := [⟨.sl, a0_data⟩, ⟨.i, a1_a⟩, ⟨.i, a2_b⟩]) (by kernel_rfl) (by kernel_rfl) ((slices_heapSortOrdered_int.e a0_data a1_a a2_b h K) ▸ hm)
def bits_Len32.m (a0_x : UInt32) (h : Heap) (K : Int → Heap → Prop) : Prop :=
  jn (.pr .u32 (.pr .i .un)) (fun J1 =>
  if (decide (a0_x ≥ 65536)) = true then (0 ≤ (((16 : UInt64).toNat : Int) : Int) ∧
  J1 (shU32 .shr a0_x ((16 : UInt64).toNat : Int), 16, ()) h)
  else J1 (a0_x, 0, ()) h) fun y1 h1 =>
  jn (.pr .u32 (.pr .i .un)) (fun J2 =>
  if (decide (y1.1 ≥ 256)) = true then (0 ≤ (((8 : UInt64).toNat : Int) : Int) ∧
  J2 (shU32 .shr y1.1 ((8 : UInt64).toNat : Int), w64 (y1.2.1 + 8), ()) h1)
  else J2 (y1.1, y1.2.1, ()) h1) fun y2 h2 =>
  ixs (⟨#[0, 1, 2, 2, 3, 3, 3, 3, 4, 4, 4, 4, 4, 4, 4, 4, 5, 5, 5, 5, 5, 5, 5, 5, 5, 5, 5, 5, 5, 5, 5, 5, 6, 6, 6, 6, 6, 6, 6, 6, 6, 6, 6, 6, 6, 6, 6, 6, 6, 6, 6, 6, 6, 6, 6, 6, 6, 6, 6, 6, 6, 6, 6, 6, 7, 7, 7, 7, 7, 7, 7, 7, 7, 7, 7, 7, 7, 7, 7, 7, 7, 7, 7, 7, 7, 7, 7, 7, 7, 7, 7, 7, 7, 7, 7, 7, 7, 7, 7, 7, 7, 7, 7, 7, 7, 7, 7, 7, 7, 7, 7, 7, 7, 7, 7, 7, 7, 7, 7, 7, 7, 7, 7, 7, 7, 7, 7, 7, 8, 8, 8, 8, 8, 8, 8, 8, 8, 8, 8, 8, 8, 8, 8, 8, 8, 8, 8, 8, 8, 8, 8, 8, 8, 8, 8, 8, 8, 8, 8, 8, 8, 8, 8, 8, 8, 8, 8, 8, 8, 8, 8, 8, 8, 8, 8, 8, 8, 8, 8, 8, 8, 8, 8, 8, 8, 8, 8, 8, 8, 8, 8, 8, 8, 8, 8, 8, 8, 8, 8, 8, 8, 8, 8, 8, 8, 8, 8, 8, 8, 8, 8, 8, 8, 8, 8, 8, 8, 8, 8, 8, 8, 8, 8, 8, 8, 8, 8, 8, 8, 8, 8, 8, 8, 8, 8, 8, 8, 8, 8, 8, 8, 8, 8, 8, 8, 8, 8, 8, 8, 8, 8, 8, 8, 8, 8, 8]⟩ : ByteArray) ((u8I (y2.1.toNat : Int)).toNat : Int) fun c1 =>
  K (w64 (y2.2.1 + (c1.toNat : Int))) h2
theorem bits_Len32.e (a0_x : UInt32) (h : Heap) (K : Int → Heap → Prop) : bits_Len32.m a0_x h K = fnC Try.prog tys [(9, [(0, .u32), (2, .i)]), (21, [(0, .u32), (2, .i)])] Try.f93 [⟨.u32, a0_x⟩] .i h (K) := by kernel_rfl
theorem bits_Len32.c (a0_x : UInt32) {h : Heap} {K : Int → Heap → Prop} (hm : bits_Len32.m a0_x h K) : bits_Len32.C a0_x h K := fn_sound (an := [(9, [(0, .u32), (2, .i)]), (21, [(0, .u32), (2, .i)])]) tysOk tysPl follows (f := 93) (fn := Try.f93) (args := [⟨.u32, a0_x⟩]) (by kernel_rfl) (by kernel_rfl) ((bits_Len32.e a0_x h K) ▸ hm)
def bits_Len64.m (a0_x : UInt64) (h : Heap) (K : Int → Heap → Prop) : Prop :=
  jn (.pr .u64 (.pr .i .un)) (fun J1 =>
  if (decide (a0_x ≥ 4294967296)) = true then (0 ≤ (((32 : UInt64).toNat : Int) : Int) ∧
  J1 (shU64 .shr a0_x ((32 : UInt64).toNat : Int), 32, ()) h)
  else J1 (a0_x, 0, ()) h) fun y1 h1 =>
  jn (.pr .u64 (.pr .i .un)) (fun J2 =>
  if (decide (y1.1 ≥ 65536)) = true then (0 ≤ (((16 : UInt64).toNat : Int) : Int) ∧
  J2 (shU64 .shr y1.1 ((16 : UInt64).toNat : Int), w64 (y1.2.1 + 16), ()) h1)
  else J2 (y1.1, y1.2.1, ()) h1) fun y2 h2 =>
  jn (.pr .u64 (.pr .i .un)) (fun J3 =>
  if (decide (y2.1 ≥ 256)) = true then (0 ≤ (((8 : UInt64).toNat : Int) : Int) ∧
  J3 (shU64 .shr y2.1 ((8 : UInt64).toNat : Int), w64 (y2.2.1 + 8), ()) h2)
  else J3 (y2.1, y2.2.1, ()) h2) fun y3 h3 =>
  ixs (⟨#[0, 1, 2, 2, 3, 3, 3, 3, 4, 4, 4, 4, 4, 4, 4, 4, 5, 5, 5, 5, 5, 5, 5, 5, 5, 5, 5, 5, 5, 5, 5, 5, 6, 6, 6, 6, 6, 6, 6, 6, 6, 6, 6, 6, 6, 6, 6, 6, 6, 6, 6, 6, 6, 6, 6, 6, 6, 6, 6, 6, 6, 6, 6, 6, 7, 7, 7, 7, 7, 7, 7, 7, 7, 7, 7, 7, 7, 7, 7, 7, 7, 7, 7, 7, 7, 7, 7, 7, 7, 7, 7, 7, 7, 7, 7, 7, 7, 7, 7, 7, 7, 7, 7, 7, 7, 7, 7, 7, 7, 7, 7, 7, 7, 7, 7, 7, 7, 7, 7, 7, 7, 7, 7, 7, 7, 7, 7, 7, 8, 8, 8, 8, 8, 8, 8, 8, 8, 8, 8, 8, 8, 8, 8, 8, 8, 8, 8, 8, 8, 8, 8, 8, 8, 8, 8, 8, 8, 8, 8, 8, 8, 8, 8, 8, 8, 8, 8, 8, 8, 8, 8, 8, 8, 8, 8, 8, 8, 8, 8, 8, 8, 8, 8, 8, 8, 8, 8, 8, 8, 8, 8, 8, 8, 8, 8, 8, 8, 8, 8, 8, 8, 8, 8, 8, 8, 8, 8, 8, 8, 8, 8, 8, 8, 8, 8, 8, 8, 8, 8, 8, 8, 8, 8, 8, 8, 8, 8, 8, 8, 8, 8, 8, 8, 8, 8, 8, 8, 8, 8, 8, 8, 8, 8, 8, 8, 8, 8, 8, 8, 8, 8, 8, 8, 8, 8, 8]⟩ : ByteArray) ((u8I (y3.1.toNat : Int)).toNat : Int) fun c1 =>
  K (w64 (y3.2.1 + (c1.toNat : Int))) h3
theorem bits_Len64.e (a0_x : UInt64) (h : Heap) (K : Int → Heap → Prop) : bits_Len64.m a0_x h K = fnC Try.prog tys [(9, [(0, .u64), (2, .i)]), (21, [(0, .u64), (2, .i)]), (33, [(0, .u64), (2, .i)])] Try.f94 [⟨.u64, a0_x⟩] .i h (K) := by kernel_rfl
theorem bits_Len64.c (a0_x : UInt64) {h : Heap} {K : Int → Heap → Prop} (hm : bits_Len64.m a0_x h K) : bits_Len64.C a0_x h K := fn_sound (an := [(9, [(0, .u64), (2, .i)]), (21, [(0, .u64), (2, .i)]), (33, [(0, .u64), (2, .i)])]) tysOk tysPl follows (f := 94) (fn := Try.f94) (args := [⟨.u64, a0_x⟩]) (by kernel_rfl) (by kernel_rfl) ((bits_Len64.e a0_x h K) ▸ hm)
def bits_Len.m (a0_x : UInt64) (h : Heap) (K : Int → Heap → Prop) : Prop :=
  bits_Len64.C a0_x h fun x1 h1 =>
  K x1 h1
theorem bits_Len.e (a0_x : UInt64) (h : Heap) (K : Int → Heap → Prop) : bits_Len.m a0_x h K = fnC Try.prog tys [] Try.f75 [⟨.u64, a0_x⟩] .i h (K) := by kernel_rfl
theorem bits_Len.c (a0_x : UInt64) {h : Heap} {K : Int → Heap → Prop} (hm : bits_Len.m a0_x h K) : bits_Len.C a0_x h K := fn_sound (an := []) tysOk tysPl follows (f := 75) (fn := Try.f75) (args := [⟨.u64, a0_x⟩]) (by kernel_rfl) (by kernel_rfl) ((bits_Len.e a0_x h K) ▸ hm)
def slices_nextPowerOfTwo.m (a0_length : Int) (h : Heap) (K : UInt64 → Heap → Prop) : Prop :=
  bits_Len.C (u64I a0_length) h fun x1 h1 =>
  0 ≤ x1 ∧
  K (shU64 .shl (1 : UInt64) x1) h1
theorem slices_nextPowerOfTwo.e (a0_length : Int) (h : Heap) (K : UInt64 → Heap → Prop) : slices_nextPowerOfTwo.m a0_length h K = fnC Try.prog tys [] Try.f99 [⟨.i, a0_length⟩] .u64 h (K) := by kernel_rfl
theorem slices_nextPowerOfTwo.c (a0_length : Int) {h : Heap} {K : UInt64 → Heap → Prop} (hm : slices_nextPowerOfTwo.m a0_length h K) : slices_nextPowerOfTwo.C a0_length h K := fn_sound (an := []) tysOk tysPl follows (f := 99) (fn := Try.f99) (args := [⟨.i, a0_length⟩]) (by kernel_rfl) (by kernel_rfl) ((slices_nextPowerOfTwo.e a0_length h K) ▸ hm)
def slices_xorshift_Next.m (a0_r : Option Pl) (h : Heap) (K : UInt64 → Heap → Prop) : Prop :=
  nck a0_r fun l1 =>
  ld .u64 l1 h fun x1 =>
  nck a0_r fun l2 =>
  ld .u64 l2 h fun x2 =>
  0 ≤ (((13 : UInt64).toNat : Int) : Int) ∧
  nck a0_r fun l3 =>
  st .u64 l3 (x1 ^^^ (shU64 .shl x2 ((13 : UInt64).toNat : Int))) h fun h1 =>
  nck a0_r fun l4 =>
  ld .u64 l4 h1 fun x3 =>
  nck a0_r fun l5 =>
  ld .u64 l5 h1 fun x4 =>
  0 ≤ (((7 : UInt64).toNat : Int) : Int) ∧
  nck a0_r fun l6 =>
  st .u64 l6 (x3 ^^^ (shU64 .shr x4 ((7 : UInt64).toNat : Int))) h1 fun h2 =>
  nck a0_r fun l7 =>
  ld .u64 l7 h2 fun x5 =>
  nck a0_r fun l8 =>
  ld .u64 l8 h2 fun x6 =>
  0 ≤ (((17 : UInt64).toNat : Int) : Int) ∧
  nck a0_r fun l9 =>
  st .u64 l9 (x5 ^^^ (shU64 .shl x6 ((17 : UInt64).toNat : Int))) h2 fun h3 =>
  nck a0_r fun l10 =>
  ld .u64 l10 h3 fun x7 =>
  K x7 h3
theorem slices_xorshift_Next.e (a0_r : Option Pl) (h : Heap) (K : UInt64 → Heap → Prop) : slices_xorshift_Next.m a0_r h K = fnC Try.prog tys [] Try.f100 [⟨.p, a0_r⟩] .u64 h (K) := by kernel_rfl
theorem slices_xorshift_Next.c (a0_r : Option Pl) {h : Heap} {K : UInt64 → Heap → Prop} (hm : slices_xorshift_Next.m a0_r h K) : slices_xorshift_Next.C a0_r h K := fn_sound (an := []) tysOk tysPl follows (f := 100) (fn := Try.f100) (args := [⟨.p, a0_r⟩]) (by kernel_rfl) (by kernel_rfl) ((slices_xorshift_Next.e a0_r h K) ▸ hm)
def slices_breakPatternsOrdered_int.m (a0_data : Slc) (a1_a : Int) (a2_b : Int) (h : Heap) (K : Heap → Prop) : Prop :=
  jn .un (fun J1 =>
  if (decide ((w64 (a2_b - a1_a)) ≥ 8)) = true then (new 163 .u64 0 h fun b1 h2 =>
  st .u64 (Pl.mk b1 0) (u64I (w64 (a2_b - a1_a))) h2 fun h3 =>
  slices_nextPowerOfTwo.C (w64 (a2_b - a1_a)) h3 fun x1 h4 =>
  (4 : Int) ≠ 0 ∧
  lp (.pr .i .un) (fun y2 h5 next1 =>
  (4 : Int) ≠ 0 ∧
  if (decide (y2.1 ≤ (w64 ((w64 (a1_a + (w64 ((w64 ((w64 (a2_b - a1_a)).tdiv 4)) * 2)))) + 1)))) = true then (jn .un (fun J2 =>
  slices_xorshift_Next.C (some (Pl.mk b1 0)) h5 fun x2 h7 =>
  jn (.pr .i .un) (fun J3 =>
  if (decide ((w64 ((x2 &&& (x1 - 1)).toNat : Int)) ≥ (w64 (a2_b - a1_a)))) = true then J3 (w64 ((w64 ((x2 &&& (x1 - 1)).toNat : Int)) - (w64 (a2_b - a1_a))), ()) h7
  else J3 (w64 ((x2 &&& (x1 - 1)).toNat : Int), ()) h7) fun y4 h8 =>
  ix a0_data (w64 (a1_a + y4.1)) 1 fun l1 =>
  ld .i l1 h8 fun x3 =>
  ix a0_data y2.1 1 fun l2 =>
  ld .i l2 h8 fun x4 =>
  ix a0_data y2.1 1 fun l3 =>
  st .i l3 x3 h8 fun h9 =>
  ix a0_data (w64 (a1_a + y4.1)) 1 fun l4 =>
  st .i l4 x4 h9 fun h10 =>
  J2 (()) h10) fun y3 h6 =>
  next1 (w64 (y2.1 + 1), ()) h6)
  else J1 (()) h5) (w64 ((w64 (a1_a + (w64 ((w64 ((w64 (a2_b - a1_a)).tdiv 4)) * 2)))) - 1), ()) h4)
  else J1 (()) h) fun y1 h1 =>
  K h1
theorem slices_breakPatternsOrdered_int.e (a0_data : Slc) (a1_a : Int) (a2_b : Int) (h : Heap) (K : Heap → Prop) : slices_breakPatternsOrdered_int.m a0_data a1_a a2_b h K = fnC Try.prog tys [(7, []), (9, []), (22, [(9, .i)]), (37, [(10, .i)])] Try.f86 [⟨.sl, a0_data⟩, ⟨.i, a1_a⟩, ⟨.i, a2_b⟩] .un h (fun _ h => K h) := by kernel_rfl
theorem slices_breakPatternsOrdered_int.c (a0_data : Slc) (a1_a : Int) (a2_b : Int) {h : Heap} {K : Heap → Prop} (hm : slices_breakPatternsOrdered_int.m a0_data a1_a a2_b h K) : slices_breakPatternsOrdered_int.C a0_data a1_a a2_b h K := fn_sound (an := [(7, []), (9, []), (22, [(9, .i)]), (37, [(10, .i)])]) tysOk tysPl follows (f := 86) (fn := Try.f86) (args := [⟨.sl, a0_data⟩, ⟨.i, a1_a⟩, ⟨.i, a2_b⟩]) (by kernel_rfl) (by kernel_rfl) ((slices_breakPatternsOrdered_int.e a0_data a1_a a2_b h K) ▸ hm)
def slices_order2Ordered_int.m (a0_data : Slc) (a1_a : Int) (a2_b : Int) (a3_swaps : Option Pl) (h : Heap) (K : Int → Int → Heap → Prop) : Prop :=
  ix a0_data a2_b 1 fun l1 =>
  ld .i l1 h fun x1 =>
  ix a0_data a1_a 1 fun l2 =>
  ld .i l2 h fun x2 =>
  cmp_Less_int.C x1 x2 h fun x3 h1 =>
  if x3 = true then (nck a3_swaps fun l3 =>
  ld .i l3 h1 fun x4 =>
  nck a3_swaps fun l4 =>
  st .i l4 (w64 (x4 + 1)) h1 fun h2 =>
  K a2_b a1_a h2)
  else K a1_a a2_b h1
theorem slices_order2Ordered_int.e (a0_data : Slc) (a1_a : Int) (a2_b : Int) (a3_swaps : Option Pl) (h : Heap) (K : Int → Int → Heap → Prop) : slices_order2Ordered_int.m a0_data a1_a a2_b a3_swaps h K = fnC Try.prog tys [] Try.f104 [⟨.sl, a0_data⟩, ⟨.i, a1_a⟩, ⟨.i, a2_b⟩, ⟨.p, a3_swaps⟩] (.tp (.pr .i (.pr .i .un))) h (fun x h => K x.1 x.2.1 h) := by kernel_rfl
theorem slices_order2Ordered_int.c (a0_data : Slc) (a1_a : Int) (a2_b : Int) (a3_swaps : Option Pl) {h : Heap} {K : Int → Int → Heap → Prop} (hm : slices_order2Ordered_int.m a0_data a1_a a2_b a3_swaps h K) : slices_order2Ordered_int.C a0_data a1_a a2_b a3_swaps h K := fn_sound (an := []) tysOk tysPl follows (f := 104) (fn := Try.f104) (args := [⟨.sl, a0_data⟩, ⟨.i, a1_a⟩, ⟨.i, a2_b⟩, ⟨.p, a3_swaps⟩]) (by kernel_rfl) (by kernel_rfl) ((slices_order2Ordered_int.e a0_data a1_a a2_b a3_swaps h K) ▸ hm)
def slices_medianOrdered_int.m (a0_data : Slc) (a1_a : Int) (a2_b : Int) (a3_c : Int) (a4_swaps : Option Pl) (h : Heap) (K : Int → Heap → Prop) : Prop :=
  slices_order2Ordered_int.C a0_data a1_a a2_b a4_swaps h fun x1 x2 h1 =>
  slices_order2Ordered_int.C a0_data x2 a3_c a4_swaps h1 fun x3 x4 h2 =>
  slices_order2Ordered_int.C a0_data x1 x3 a4_swaps h2 fun x5 x6 h3 =>
  K x6 h3
theorem slices_medianOrdered_int.e (a0_data : Slc) (a1_a : Int) (a2_b : Int) (a3_c : Int) (a4_swaps : Option Pl) (h : Heap) (K : Int → Heap → Prop) : slices_medianOrdered_int.m a0_data a1_a a2_b a3_c a4_swaps h K = fnC Try.prog tys [] Try.f102 [⟨.sl, a0_data⟩, ⟨.i, a1_a⟩, ⟨.i, a2_b⟩, ⟨.i, a3_c⟩, ⟨.p, a4_swaps⟩] .i h (K) := by kernel_rfl
theorem slices_medianOrdered_int.c (a0_data : Slc) (a1_a : Int) (a2_b : Int) (a3_c : Int) (a4_swaps : Option Pl) {h : Heap} {K : Int → Heap → Prop} (hm : slices_medianOrdered_int.m a0_data a1_a a2_b a3_c a4_swaps h K) : slices_medianOrdered_int.C a0_data a1_a a2_b a3_c a4_swaps h K := fn_sound (an := []) tysOk tysPl follows (f := 102) (fn := Try.f102) (args := [⟨.sl, a0_data⟩, ⟨.i, a1_a⟩, ⟨.i, a2_b⟩, ⟨.i, a3_c⟩, ⟨.p, a4_swaps⟩]) (by kernel_rfl) (by kernel_rfl) ((slices_medianOrdered_int.e a0_data a1_a a2_b a3_c a4_swaps h K) ▸ hm)
def slices_medianAdjacentOrdered_int.m (a0_data : Slc) (a1_a : Int) (a2_swaps : Option Pl) (h : Heap) (K : Int → Heap → Prop) : Prop :=
  slices_medianOrdered_int.C a0_data (w64 (a1_a - 1)) a1_a (w64 (a1_a + 1)) a2_swaps h fun x1 h1 =>
  K x1 h1
theorem slices_medianAdjacentOrdered_int.e (a0_data : Slc) (a1_a : Int) (a2_swaps : Option Pl) (h : Heap) (K : Int → Heap → Prop) : slices_medianAdjacentOrdered_int.m a0_data a1_a a2_swaps h K = fnC Try.prog tys [] Try.f101 [⟨.sl, a0_data⟩, ⟨.i, a1_a⟩, ⟨.p, a2_swaps⟩] .i h (K) := by kernel_rfl
theorem slices_medianAdjacentOrdered_int.c (a0_data : Slc) (a1_a : Int) (a2_swaps : Option Pl) {h : Heap} {K : Int → Heap → Prop} (hm : slices_medianAdjacentOrdered_int.m a0_data a1_a a2_swaps h K) : slices_medianAdjacentOrdered_int.C a0_data a1_a a2_swaps h K := fn_sound (an := []) tysOk tysPl follows (f := 101) (fn := Try.f101) (args := [⟨.sl, a0_data⟩, ⟨.i, a1_a⟩, ⟨.p, a2_swaps⟩]) (by kernel_rfl) (by kernel_rfl) ((slices_medianAdjacentOrdered_int.e a0_data a1_a a2_swaps h K) ▸ hm)
def slices_choosePivotOrdered_int.m (a0_data : Slc) (a1_a : Int) (a2_b : Int) (h : Heap) (K : Int → Int → Heap → Prop) : Prop :=
  new 3 .i 0 h fun b1 h1 =>
  (4 : Int) ≠ 0 ∧
  (4 : Int) ≠ 0 ∧
  (4 : Int) ≠ 0 ∧
  jn (.pr .i .un) (fun J1 =>
  if (decide ((w64 (a2_b - a1_a)) ≥ 8)) = true then (jn (.pr .i (.pr .i (.pr .i .un))) (fun J2 =>
  if (decide ((w64 (a2_b - a1_a)) ≥ 50)) = true then (slices_medianAdjacentOrdered_int.C a0_data (w64 (a1_a + (w64 ((w64 ((w64 (a2_b - a1_a)).tdiv 4)) * 1)))) (some (Pl.mk b1 0)) h1 fun x1 h4 =>
  slices_medianAdjacentOrdered_int.C a0_data (w64 (a1_a + (w64 ((w64 ((w64 (a2_b - a1_a)).tdiv 4)) * 2)))) (some (Pl.mk b1 0)) h4 fun x2 h5 =>
  slices_medianAdjacentOrdered_int.C a0_data (w64 (a1_a + (w64 ((w64 ((w64 (a2_b - a1_a)).tdiv 4)) * 3)))) (some (Pl.mk b1 0)) h5 fun x3 h6 =>
  J2 (x1, x2, x3, ()) h6)
  else J2 (w64 (a1_a + (w64 ((w64 ((w64 (a2_b - a1_a)).tdiv 4)) * 1))), w64 (a1_a + (w64 ((w64 ((w64 (a2_b - a1_a)).tdiv 4)) * 2))), w64 (a1_a + (w64 ((w64 ((w64 (a2_b - a1_a)).tdiv 4)) * 3))), ()) h1) fun y2 h3 =>
  slices_medianOrdered_int.C a0_data y2.1 y2.2.1 y2.2.2.1 (some (Pl.mk b1 0)) h3 fun x4 h7 =>
  J1 (x4, ()) h7)
  else J1 (w64 (a1_a + (w64 ((w64 ((w64 (a2_b - a1_a)).tdiv 4)) * 2))), ()) h1) fun y1 h2 =>
  ld .i (Pl.mk b1 0) h2 fun x5 =>
  if (decide (x5 = (0 : Int))) = true then K y1.1 1 h2
  else if (decide (x5 = (12 : Int))) = true then K y1.1 2 h2
  else K y1.1 0 h2
theorem slices_choosePivotOrdered_int.e (a0_data : Slc) (a1_a : Int) (a2_b : Int) (h : Heap) (K : Int → Int → Heap → Prop) : slices_choosePivotOrdered_int.m a0_data a1_a a2_b h K = fnC Try.prog tys [(29, [(11, .i)]), (33, [(10, .i), (11, .i), (12, .i)])] Try.f87 [⟨.sl, a0_data⟩, ⟨.i, a1_a⟩, ⟨.i, a2_b⟩] (.tp (.pr .i (.pr .i .un))) h (fun x h => K x.1 x.2.1 h) := by kernel_rfl
theorem slices_choosePivotOrdered_int.c (a0_data : Slc) (a1_a : Int) (a2_b : Int) {h : Heap} {K : Int → Int → Heap → Prop} (hm : slices_choosePivotOrdered_int.m a0_data a1_a a2_b h K) : slices_choosePivotOrdered_int.C a0_data a1_a a2_b h K := fn_sound (an := [(29, [(11, .i)]), (33, [(10, .i), (11, .i), (12, .i)])]) tysOk tysPl follows (f := 87) (fn := Try.f87) (args := [⟨.sl, a0_data⟩, ⟨.i, a1_a⟩, ⟨.i, a2_b⟩]) (by kernel_rfl) (by kernel_rfl) ((slices_choosePivotOrdered_int.e a0_data a1_a a2_b h K) ▸ hm)
def slices_reverseRangeOrdered_int.m (a0_data : Slc) (a1_a : Int) (a2_b : Int) (h : Heap) (K : Heap → Prop) : Prop :=
  lp (.pr .i (.pr .i .un)) (fun y1 h1 next1 =>
  if (decide (y1.1 < y1.2.1)) = true then (ix a0_data y1.2.1 1 fun l1 =>
  ld .i l1 h1 fun x1 =>
  ix a0_data y1.1 1 fun l2 =>
  ld .i l2 h1 fun x2 =>
  ix a0_data y1.1 1 fun l3 =>
  st .i l3 x1 h1 fun h2 =>
  ix a0_data y1.2.1 1 fun l4 =>
  st .i l4 x2 h2 fun h3 =>
  next1 (w64 (y1.1 + 1), w64 (y1.2.1 - 1), ()) h3)
  else K h1) (a1_a, w64 (a2_b - 1), ()) h
theorem slices_reverseRangeOrdered_int.e (a0_data : Slc) (a1_a : Int) (a2_b : Int) (h : Heap) (K : Heap → Prop) : slices_reverseRangeOrdered_int.m a0_data a1_a a2_b h K = fnC Try.prog tys [(10, [(6, .i), (7, .i)])] Try.f88 [⟨.sl, a0_data⟩, ⟨.i, a1_a⟩, ⟨.i, a2_b⟩] .un h (fun _ h => K h) := by kernel_rfl
theorem slices_reverseRangeOrdered_int.c (a0_data : Slc) (a1_a : Int) (a2_b : Int) {h : Heap} {K : Heap → Prop} (hm : slices_reverseRangeOrdered_int.m a0_data a1_a a2_b h K) : slices_reverseRangeOrdered_int.C a0_data a1_a a2_b h K := fn_sound (an := [(10, [(6, .i), (7, .i)])]) tysOk tysPl follows (f := 88) (fn := Try.f88) (args := [⟨.sl, a0_data⟩, ⟨.i, a1_a⟩, ⟨.i, a2_b⟩]) (by kernel_rfl) (by kernel_rfl) ((slices_reverseRangeOrdered_int.e a0_data a1_a a2_b h K) ▸ hm)
def slices_partialInsertionSortOrdered_int.m (a0_data : Slc) (a1_a : Int) (a2_b : Int) (h : Heap) (K : Bool → Heap → Prop) : Prop :=
  lp (.pr .i (.pr .i .un)) (fun y1 h1 next1 =>
  if (decide (y1.2.1 < 5)) = true then (jn (.pr .i .un) (fun J1 =>
  lp (.pr .i .un) (fun y3 h3 next2 =>
  jn (.pr .b .un) (fun J2 =>
  if (decide (y3.1 < a2_b)) = true then (ix a0_data y3.1 1 fun l1 =>
  ld .i l1 h3 fun x1 =>
  ix a0_data (w64 (y3.1 - 1)) 1 fun l2 =>
  ld .i l2 h3 fun x2 =>
  cmp_Less_int.C x1 x2 h3 fun x3 h5 =>
  J2 (!x3, ()) h5)
  else J2 (false, ()) h3) fun y4 h4 =>
  if y4.1 = true then next2 (w64 (y3.1 + 1), ()) h4
  else if (decide (y3.1 = a2_b)) = true then K true h4
  else if (decide ((w64 (a2_b - a1_a)) < 50)) = true then K false h4
  else ix a0_data (w64 (y3.1 - 1)) 1 fun l3 =>
  ld .i l3 h4 fun x4 =>
  ix a0_data y3.1 1 fun l4 =>
  ld .i l4 h4 fun x5 =>
  ix a0_data y3.1 1 fun l5 =>
  st .i l5 x4 h4 fun h6 =>
  ix a0_data (w64 (y3.1 - 1)) 1 fun l6 =>
  st .i l6 x5 h6 fun h7 =>
  jn .un (fun J3 =>
  if (decide ((w64 (y3.1 - a1_a)) ≥ 2)) = true then (jn .un (fun J4 =>
  lp (.pr .i .un) (fun y7 h10 next3 =>
  if (decide (y7.1 ≥ 1)) = true then (ix a0_data y7.1 1 fun l7 =>
  ld .i l7 h10 fun x6 =>
  ix a0_data (w64 (y7.1 - 1)) 1 fun l8 =>
  ld .i l8 h10 fun x7 =>
  cmp_Less_int.C x6 x7 h10 fun x8 h11 =>
  if (!x8) = true then J4 (()) h11
  else ix a0_data (w64 (y7.1 - 1)) 1 fun l9 =>
  ld .i l9 h11 fun x9 =>
  ix a0_data y7.1 1 fun l10 =>
  ld .i l10 h11 fun x10 =>
  ix a0_data y7.1 1 fun l11 =>
  st .i l11 x9 h11 fun h12 =>
  ix a0_data (w64 (y7.1 - 1)) 1 fun l12 =>
  st .i l12 x10 h12 fun h13 =>
  next3 (w64 (y7.1 - 1), ()) h13)
  else J4 (()) h10) (w64 (y3.1 - 1), ()) h7) fun y6 h9 =>
  J3 (()) h9)
  else J3 (()) h7) fun y5 h8 =>
  jn .un (fun J5 =>
  if (decide ((w64 (a2_b - y3.1)) ≥ 2)) = true then (jn .un (fun J6 =>
  lp (.pr .i .un) (fun y10 h16 next4 =>
  if (decide (y10.1 < a2_b)) = true then (ix a0_data y10.1 1 fun l13 =>
  ld .i l13 h16 fun x11 =>
  ix a0_data (w64 (y10.1 - 1)) 1 fun l14 =>
  ld .i l14 h16 fun x12 =>
  cmp_Less_int.C x11 x12 h16 fun x13 h17 =>
  if (!x13) = true then J6 (()) h17
  else ix a0_data (w64 (y10.1 - 1)) 1 fun l15 =>
  ld .i l15 h17 fun x14 =>
  ix a0_data y10.1 1 fun l16 =>
  ld .i l16 h17 fun x15 =>
  ix a0_data y10.1 1 fun l17 =>
  st .i l17 x14 h17 fun h18 =>
  ix a0_data (w64 (y10.1 - 1)) 1 fun l18 =>
  st .i l18 x15 h18 fun h19 =>
  next4 (w64 (y10.1 + 1), ()) h19)
  else J6 (()) h16) (w64 (y3.1 + 1), ()) h8) fun y9 h15 =>
  J5 (()) h15)
  else J5 (()) h8) fun y8 h14 =>
  J1 (y3.1, ()) h14) (y1.1, ()) h1) fun y2 h2 =>
  next1 (y2.1, w64 (y1.2.1 + 1), ()) h2)
  else K false h1) (w64 (a1_a + 1), 0, ()) h
theorem slices_partialInsertionSortOrdered_int.e (a0_data : Slc) (a1_a : Int) (a2_b : Int) (h : Heap) (K : Bool → Heap → Prop) : slices_partialInsertionSortOrdered_int.m a0_data a1_a a2_b h K = fnC Try.prog tys [(7, [(7, .i)]), (14, [(7, .i), (8, .i)]), (19, []), (20, [(32, .b)]), (22, [(7, .i)]), (27, []), (53, []), (58, [(9, .i)]), (77, []), (82, [(10, .i)])] Try.f89 [⟨.sl, a0_data⟩, ⟨.i, a1_a⟩, ⟨.i, a2_b⟩] .b h (K) := by kernel_rfl
theorem slices_partialInsertionSortOrdered_int.c (a0_data : Slc) (a1_a : Int) (a2_b : Int) {h : Heap} {K : Bool → Heap → Prop} (hm : slices_partialInsertionSortOrdered_int.m a0_data a1_a a2_b h K) : slices_partialInsertionSortOrdered_int.C a0_data a1_a a2_b h K := fn_sound (an := [(7, [(7, .i)]), (14, [(7, .i), (8, .i)]), (19, []), (20, [(32, .b)]), (22, [(7, .i)]), (27, []), (53, []), (58, [(9, .i)]), (77, []), (82, [(10, .i)])]) tysOk tysPl follows (f := 89) (fn := Try.f89) (args := [⟨.sl, a0_data⟩, ⟨.i, a1_a⟩, ⟨.i, a2_b⟩]) (by kernel_rfl) (by kernel_rfl) ((slices_partialInsertionSortOrdered_int.e a0_data a1_a a2_b h K) ▸ hm)
def slices_partitionEqualOrdered_int.m (a0_data : Slc) (a1_a : Int) (a2_b : Int) (a3_pivot : Int) (h : Heap) (K : Int → Heap → Prop) : Prop :=
  ix a0_data a3_pivot 1 fun l1 =>
  ld .i l1 h fun x1 =>
  ix a0_data a1_a 1 fun l2 =>
  ld .i l2 h fun x2 =>
  ix a0_data a1_a 1 fun l3 =>
  st .i l3 x1 h fun h1 =>
  ix a0_data a3_pivot 1 fun l4 =>
  st .i l4 x2 h1 fun h2 =>
  lp (.pr .i (.pr .i .un)) (fun y1 h3 next1 =>
  lp (.pr .i .un) (fun y2 h4 next2 =>
  jn (.pr .b .un) (fun J1 =>
  if (decide (y2.1 ≤ y1.2.1)) = true then (ix a0_data a1_a 1 fun l5 =>
  ld .i l5 h4 fun x3 =>
  ix a0_data y2.1 1 fun l6 =>
  ld .i l6 h4 fun x4 =>
  cmp_Less_int.C x3 x4 h4 fun x5 h6 =>
  J1 (!x5, ()) h6)
  else J1 (false, ()) h4) fun y3 h5 =>
  if y3.1 = true then next2 (w64 (y2.1 + 1), ()) h5
  else lp (.pr .i .un) (fun y4 h7 next3 =>
  jn (.pr .b .un) (fun J2 =>
  if (decide (y2.1 ≤ y4.1)) = true then (ix a0_data a1_a 1 fun l7 =>
  ld .i l7 h7 fun x6 =>
  ix a0_data y4.1 1 fun l8 =>
  ld .i l8 h7 fun x7 =>
  cmp_Less_int.C x6 x7 h7 fun x8 h9 =>
  J2 (x8, ()) h9)
  else J2 (false, ()) h7) fun y5 h8 =>
  if y5.1 = true then next3 (w64 (y4.1 - 1), ()) h8
  else if (decide (y2.1 > y4.1)) = true then K y2.1 h8
  else ix a0_data y4.1 1 fun l9 =>
  ld .i l9 h8 fun x9 =>
  ix a0_data y2.1 1 fun l10 =>
  ld .i l10 h8 fun x10 =>
  ix a0_data y2.1 1 fun l11 =>
  st .i l11 x9 h8 fun h10 =>
  ix a0_data y4.1 1 fun l12 =>
  st .i l12 x10 h10 fun h11 =>
  next1 (w64 (y2.1 + 1), w64 (y4.1 - 1), ()) h11) (y1.2.1, ()) h5) (y1.1, ()) h3) (w64 (a1_a + 1), w64 (a2_b - 1), ()) h2
theorem slices_partitionEqualOrdered_int.e (a0_data : Slc) (a1_a : Int) (a2_b : Int) (a3_pivot : Int) (h : Heap) (K : Int → Heap → Prop) : slices_partitionEqualOrdered_int.m a0_data a1_a a2_b a3_pivot h K = fnC Try.prog tys [(12, [(43, .b)]), (14, [(9, .i)]), (20, [(59, .b)]), (22, [(10, .i)]), (4194318, [(9, .i), (10, .i)])] Try.f91 [⟨.sl, a0_data⟩, ⟨.i, a1_a⟩, ⟨.i, a2_b⟩, ⟨.i, a3_pivot⟩] .i h (K) := by kernel_rfl
theorem slices_partitionEqualOrdered_int.c (a0_data : Slc) (a1_a : Int) (a2_b : Int) (a3_pivot : Int) {h : Heap} {K : Int → Heap → Prop} (hm : slices_partitionEqualOrdered_int.m a0_data a1_a a2_b a3_pivot h K) : slices_partitionEqualOrdered_int.C a0_data a1_a a2_b a3_pivot h K := fn_sound (an := [(12, [(43, .b)]), (14, [(9, .i)]), (20, [(59, .b)]), (22, [(10, .i)]), (4194318, [(9, .i), (10, .i)])]) tysOk tysPl follows (f := 91) (fn := Try.f91) (args := [⟨.sl, a0_data⟩, ⟨.i, a1_a⟩, ⟨.i, a2_b⟩, ⟨.i, a3_pivot⟩]) (by kernel_rfl) (by kernel_rfl) ((slices_partitionEqualOrdered_int.e a0_data a1_a a2_b a3_pivot h K) ▸ hm)
def slices_partitionOrdered_int.m (a0_data : Slc) (a1_a : Int) (a2_b : Int) (a3_pivot : Int) (h : Heap) (K : Int → Bool → Heap → Prop) : Prop :=
  ix a0_data a3_pivot 1 fun l1 =>
  ld .i l1 h fun x1 =>
  ix a0_data a1_a 1 fun l2 =>
  ld .i l2 h fun x2 =>
  ix a0_data a1_a 1 fun l3 =>
  st .i l3 x1 h fun h1 =>
  ix a0_data a3_pivot 1 fun l4 =>
  st .i l4 x2 h1 fun h2 =>
  lp (.pr .i .un) (fun y1 h3 next1 =>
  jn (.pr .b .un) (fun J1 =>
  if (decide (y1.1 ≤ (w64 (a2_b - 1)))) = true then (ix a0_data y1.1 1 fun l5 =>
  ld .i l5 h3 fun x3 =>
  ix a0_data a1_a 1 fun l6 =>
  ld .i l6 h3 fun x4 =>
  cmp_Less_int.C x3 x4 h3 fun x5 h5 =>
  J1 (x5, ()) h5)
  else J1 (false, ()) h3) fun y2 h4 =>
  if y2.1 = true then next1 (w64 (y1.1 + 1), ()) h4
  else lp (.pr .i .un) (fun y3 h6 next2 =>
  jn (.pr .b .un) (fun J2 =>
  if (decide (y1.1 ≤ y3.1)) = true then (ix a0_data y3.1 1 fun l7 =>
  ld .i l7 h6 fun x6 =>
  ix a0_data a1_a 1 fun l8 =>
  ld .i l8 h6 fun x7 =>
  cmp_Less_int.C x6 x7 h6 fun x8 h8 =>
  J2 (!x8, ()) h8)
  else J2 (false, ()) h6) fun y4 h7 =>
  if y4.1 = true then next2 (w64 (y3.1 - 1), ()) h7
  else if (decide (y1.1 > y3.1)) = true then (ix a0_data a1_a 1 fun l9 =>
  ld .i l9 h7 fun x9 =>
  ix a0_data y3.1 1 fun l10 =>
  ld .i l10 h7 fun x10 =>
  ix a0_data y3.1 1 fun l11 =>
  st .i l11 x9 h7 fun h9 =>
  ix a0_data a1_a 1 fun l12 =>
  st .i l12 x10 h9 fun h10 =>
  K y3.1 true h10)
  else ix a0_data y3.1 1 fun l13 =>
  ld .i l13 h7 fun x11 =>
  ix a0_data y1.1 1 fun l14 =>
  ld .i l14 h7 fun x12 =>
  ix a0_data y1.1 1 fun l15 =>
  st .i l15 x11 h7 fun h11 =>
  ix a0_data y3.1 1 fun l16 =>
  st .i l16 x12 h11 fun h12 =>
  lp (.pr .i (.pr .i .un)) (fun y5 h13 next3 =>
  lp (.pr .i .un) (fun y6 h14 next4 =>
  jn (.pr .b .un) (fun J3 =>
  if (decide (y6.1 ≤ y5.2.1)) = true then (ix a0_data y6.1 1 fun l17 =>
  ld .i l17 h14 fun x13 =>
  ix a0_data a1_a 1 fun l18 =>
  ld .i l18 h14 fun x14 =>
  cmp_Less_int.C x13 x14 h14 fun x15 h16 =>
  J3 (x15, ()) h16)
  else J3 (false, ()) h14) fun y7 h15 =>
  if y7.1 = true then next4 (w64 (y6.1 + 1), ()) h15
  else lp (.pr .i .un) (fun y8 h17 next5 =>
  jn (.pr .b .un) (fun J4 =>
  if (decide (y6.1 ≤ y8.1)) = true then (ix a0_data y8.1 1 fun l19 =>
  ld .i l19 h17 fun x16 =>
  ix a0_data a1_a 1 fun l20 =>
  ld .i l20 h17 fun x17 =>
  cmp_Less_int.C x16 x17 h17 fun x18 h19 =>
  J4 (!x18, ()) h19)
  else J4 (false, ()) h17) fun y9 h18 =>
  if y9.1 = true then next5 (w64 (y8.1 - 1), ()) h18
  else if (decide (y6.1 > y8.1)) = true then (ix a0_data a1_a 1 fun l21 =>
  ld .i l21 h18 fun x19 =>
  ix a0_data y8.1 1 fun l22 =>
  ld .i l22 h18 fun x20 =>
  ix a0_data y8.1 1 fun l23 =>
  st .i l23 x19 h18 fun h20 =>
  ix a0_data a1_a 1 fun l24 =>
  st .i l24 x20 h20 fun h21 =>
  K y8.1 false h21)
  else ix a0_data y8.1 1 fun l25 =>
  ld .i l25 h18 fun x21 =>
  ix a0_data y6.1 1 fun l26 =>
  ld .i l26 h18 fun x22 =>
  ix a0_data y6.1 1 fun l27 =>
  st .i l27 x21 h18 fun h22 =>
  ix a0_data y8.1 1 fun l28 =>
  st .i l28 x22 h22 fun h23 =>
  next3 (w64 (y6.1 + 1), w64 (y8.1 - 1), ()) h23) (y5.2.1, ()) h15) (y5.1, ()) h13) (w64 (y1.1 + 1), w64 (y3.1 - 1), ()) h12) (w64 (a2_b - 1), ()) h4) (w64 (a1_a + 1), ()) h2
theorem slices_partitionOrdered_int.e (a0_data : Slc) (a1_a : Int) (a2_b : Int) (a3_pivot : Int) (h : Heap) (K : Int → Bool → Heap → Prop) : slices_partitionOrdered_int.m a0_data a1_a a2_b a3_pivot h K = fnC Try.prog tys [(12, [(43, .b)]), (14, [(10, .i)]), (20, [(60, .b)]), (22, [(11, .i)]), (52, [(112, .b)]), (54, [(10, .i)]), (60, [(129, .b)]), (62, [(11, .i)]), (4194358, [(10, .i), (11, .i)])] Try.f92 [⟨.sl, a0_data⟩, ⟨.i, a1_a⟩, ⟨.i, a2_b⟩, ⟨.i, a3_pivot⟩] (.tp (.pr .i (.pr .b .un))) h (fun x h => K x.1 x.2.1 h) := by kernel_rfl
theorem slices_partitionOrdered_int.c (a0_data : Slc) (a1_a : Int) (a2_b : Int) (a3_pivot : Int) {h : Heap} {K : Int → Bool → Heap → Prop} (hm : slices_partitionOrdered_int.m a0_data a1_a a2_b a3_pivot h K) : slices_partitionOrdered_int.C a0_data a1_a a2_b a3_pivot h K := fn_sound (an := [(12, [(43, .b)]), (14, [(10, .i)]), (20, [(60, .b)]), (22, [(11, .i)]), (52, [(112, .b)]), (54, [(10, .i)]), (60, [(129, .b)]), (62, [(11, .i)]), (4194358, [(10, .i), (11, .i)])]) tysOk tysPl follows (f := 92) (fn := Try.f92) (args := [⟨.sl, a0_data⟩, ⟨.i, a1_a⟩, ⟨.i, a2_b⟩, ⟨.i, a3_pivot⟩]) (by kernel_rfl) (by kernel_rfl) ((slices_partitionOrdered_int.e a0_data a1_a a2_b a3_pivot h K) ▸ hm)
def slices_pdqsortOrdered_int.m (a0_data : Slc) (a1_a : Int) (a2_b : Int) (a3_limit : Int) (h : Heap) (K : Heap → Prop) : Prop :=
  lp (.pr .i (.pr .i (.pr .b (.pr .b (.pr .i .un))))) (fun y1 h1 next1 =>
  jn (.pr .i (.pr .i (.pr .b (.pr .b (.pr .i .un))))) (fun J1 =>
  if (decide ((w64 (y1.2.2.2.2.1 - y1.2.1)) ≤ 12)) = true then (slices_insertionSortOrdered_int.C a0_data y1.2.1 y1.2.2.2.2.1 h1 fun h3 =>
  K h3)
  else if (decide (y1.1 = (0 : Int))) = true then (slices_heapSortOrdered_int.C a0_data y1.2.1 y1.2.2.2.2.1 h1 fun h4 =>
  K h4)
  else jn (.pr .i .un) (fun J2 =>
  if (!y1.2.2.2.1) = true then (slices_breakPatternsOrdered_int.C a0_data y1.2.1 y1.2.2.2.2.1 h1 fun h6 =>
  J2 (w64 (y1.1 - 1), ()) h6)
  else J2 (y1.1, ()) h1) fun y3 h5 =>
  slices_choosePivotOrdered_int.C a0_data y1.2.1 y1.2.2.2.2.1 h5 fun x1 x2 h7 =>
  jn (.pr .i (.pr .i .un)) (fun J3 =>
  if (decide (x2 = (2 : Int))) = true then (slices_reverseRangeOrdered_int.C a0_data y1.2.1 y1.2.2.2.2.1 h7 fun h9 =>
  J3 (w64 ((w64 (y1.2.2.2.2.1 - 1)) - (w64 (x1 - y1.2.1))), 1, ()) h9)
  else J3 (x1, x2, ()) h7) fun y4 h8 =>
  jn (.pr .b .un) (fun J4 =>
  if y1.2.2.2.1 = true then (if y1.2.2.1 = true then J4 (decide (y4.2.1 = (1 : Int)), ()) h8
  else J4 (false, ()) h8)
  else J4 (false, ()) h8) fun y5 h10 =>
  jn .un (fun J5 =>
  if y5.1 = true then (slices_partialInsertionSortOrdered_int.C a0_data y1.2.1 y1.2.2.2.2.1 h10 fun x3 h12 =>
  if x3 = true then K h12
  else J5 (()) h12)
  else J5 (()) h10) fun y6 h11 =>
  jn (.pr .b .un) (fun J6 =>
  if (decide (y1.2.1 > 0)) = true then (ix a0_data (w64 (y1.2.1 - 1)) 1 fun l1 =>
  ld .i l1 h11 fun x4 =>
  ix a0_data y4.1 1 fun l2 =>
  ld .i l2 h11 fun x5 =>
  cmp_Less_int.C x4 x5 h11 fun x6 h14 =>
  J6 (!x6, ()) h14)
  else J6 (false, ()) h11) fun y7 h13 =>
  if y7.1 = true then (slices_partitionEqualOrdered_int.C a0_data y1.2.1 y1.2.2.2.2.1 y4.1 h13 fun x7 h15 =>
  J1 (y3.1, x7, y1.2.2.1, y1.2.2.2.1, y1.2.2.2.2.1, ()) h15)
  else slices_partitionOrdered_int.C a0_data y1.2.1 y1.2.2.2.2.1 y4.1 h13 fun x8 x9 h16 =>
  (8 : Int) ≠ 0 ∧
  jn (.pr .b (.pr .i (.pr .i .un))) (fun J7 =>
  if (decide ((w64 (x8 - y1.2.1)) < (w64 (y1.2.2.2.2.1 - x8)))) = true then (slices_pdqsortOrdered_int.C a0_data y1.2.1 x8 y3.1 h16 fun h18 =>
  J7 (decide ((w64 (x8 - y1.2.1)) ≥ (w64 ((w64 (y1.2.2.2.2.1 - y1.2.1)).tdiv 8))), w64 (x8 + 1), y1.2.2.2.2.1, ()) h18)
  else slices_pdqsortOrdered_int.C a0_data (w64 (x8 + 1)) y1.2.2.2.2.1 y3.1 h16 fun h19 =>
  J7 (decide ((w64 (y1.2.2.2.2.1 - x8)) ≥ (w64 ((w64 (y1.2.2.2.2.1 - y1.2.1)).tdiv 8))), y1.2.1, x8, ()) h19) fun y8 h17 =>
  J1 (y3.1, y8.2.1, x9, y8.1, y8.2.2.1, ()) h17) fun y2 h2 =>
  next1 (y2.1, y2.2.1, y2.2.2.1, y2.2.2.2.1, y2.2.2.2.2.1, ()) h2) (a3_limit, a1_a, true, true, a2_b, ()) h
theorem slices_pdqsortOrdered_int.e (a0_data : Slc) (a1_a : Int) (a2_b : Int) (a3_limit : Int) (h : Heap) (K : Heap → Prop) : slices_pdqsortOrdered_int.m a0_data a1_a a2_b a3_limit h K = fnC Try.prog tys [(7, [(3, .i), (1, .i), (9, .b), (8, .b), (2, .i)]), (10, [(3, .i), (1, .i), (9, .b), (8, .b), (2, .i)]), (33, [(3, .i)]), (49, [(11, .i), (12, .i)]), (60, [(68, .b)]), (65, []), (68, [(87, .b)]), (101, [(8, .b), (1, .i), (2, .i)])] Try.f74 [⟨.sl, a0_data⟩, ⟨.i, a1_a⟩, ⟨.i, a2_b⟩, ⟨.i, a3_limit⟩] .un h (fun _ h => K h) := by kernel_rfl
theorem slices_pdqsortOrdered_int.c (a0_data : Slc) (a1_a : Int) (a2_b : Int) (a3_limit : Int) {h : Heap} {K : Heap → Prop} (hm : slices_pdqsortOrdered_int.m a0_data a1_a a2_b a3_limit h K) : slices_pdqsortOrdered_int.C a0_data a1_a a2_b a3_limit h K := fn_sound (an := [(7, [(3, .i), (1, .i), (9, .b), (8, .b), (2, .i)]), (10, [(3, .i), (1, .i), (9, .b), (8, .b), (2, .i)]), (33, [(3, .i)]), (49, [(11, .i), (12, .i)]), (60, [(68, .b)]), (65, []), (68, [(87, .b)]), (101, [(8, .b), (1, .i), (2, .i)])]) tysOk tysPl follows (f := 74) (fn := Try.f74) (args := [⟨.sl, a0_data⟩, ⟨.i, a1_a⟩, ⟨.i, a2_b⟩, ⟨.i, a3_limit⟩]) (by kernel_rfl) (by kernel_rfl) ((slices_pdqsortOrdered_int.e a0_data a1_a a2_b a3_limit h K) ▸ hm)
def slices_Sort_s_int_int.m (a0_x : Slc) (h : Heap) (K : Heap → Prop) : Prop :=
  bits_Len.C (u64I (a0_x.len : Int)) h fun x1 h1 =>
  slices_pdqsortOrdered_int.C a0_x 0 (a0_x.len : Int) x1 h1 fun h2 =>
  K h2
theorem slices_Sort_s_int_int.e (a0_x : Slc) (h : Heap) (K : Heap → Prop) : slices_Sort_s_int_int.m a0_x h K = fnC Try.prog tys [] Try.f55 [⟨.sl, a0_x⟩] .un h (fun _ h => K h) := by kernel_rfl
theorem slices_Sort_s_int_int.c (a0_x : Slc) {h : Heap} {K : Heap → Prop} (hm : slices_Sort_s_int_int.m a0_x h K) : slices_Sort_s_int_int.C a0_x h K := fn_sound (an := []) tysOk tysPl follows (f := 55) (fn := Try.f55) (args := [⟨.sl, a0_x⟩]) (by kernel_rfl) (by kernel_rfl) ((slices_Sort_s_int_int.e a0_x h K) ▸ hm)
def slices_Sorted_int.m (a0_seq : Value) (h : Heap) (K : Slc → Heap → Prop) : Prop :=
  slices_Collect_int.C a0_seq h fun x1 h1 =>
  slices_Sort_s_int_int.C x1 h1 fun h2 =>
  K x1 h2
theorem slices_Sorted_int.e (a0_seq : Value) (h : Heap) (K : Slc → Heap → Prop) : slices_Sorted_int.m a0_seq h K = fnC Try.prog tys [] Try.f43 [⟨.f, a0_seq⟩] .sl h (K) := by kernel_rfl
theorem slices_Sorted_int.c (a0_seq : Value) {h : Heap} {K : Slc → Heap → Prop} (hm : slices_Sorted_int.m a0_seq h K) : slices_Sorted_int.C a0_seq h K := fn_sound (an := []) tysOk tysPl follows (f := 43) (fn := Try.f43) (args := [⟨.f, a0_seq⟩]) (by kernel_rfl) (by kernel_rfl) ((slices_Sorted_int.e a0_seq h K) ▸ hm)
def maps_Keys_map_int_string_int_string_c1.m (a0_yield : Value) (c0 : Pl) (h : Heap) (K : Heap → Prop) : Prop :=
  ld .m c0 h fun x1 =>
  rng x1 h fun b1 h1 =>
  lp .un (fun y1 h2 next1 =>
  nx .i .s b1 h2 (fun h3 =>
  K h3) fun k1 e1 h4 =>
  en .i .s b1 h4 fun k2 e2 =>
  callV Try.prog a0_yield [Kd.i.val k2] .b h4 fun x2 h5 =>
  if (!x2) = true then K h5
  else next1 (()) h5) (()) h1
theorem maps_Keys_map_int_string_int_string_c1.e (a0_yield : Value) (c0 : Pl) (h : Heap) (K : Heap → Prop) : maps_Keys_map_int_string_int_string_c1.m a0_yield c0 h K = fnC Try.prog tys [(6, [])] Try.f56 [⟨.f, a0_yield⟩, ⟨.p, some c0⟩] .un h (fun _ h => K h) := by kernel_rfl
theorem maps_Keys_map_int_string_int_string_c1.c (a0_yield : Value) (c0 : Pl) {h : Heap} {K : Heap → Prop} (hm : maps_Keys_map_int_string_int_string_c1.m a0_yield c0 h K) : maps_Keys_map_int_string_int_string_c1.C a0_yield c0 h K := fn_sound (an := [(6, [])]) tysOk tysPl follows (f := 56) (fn := Try.f56) (args := [⟨.f, a0_yield⟩, ⟨.p, some c0⟩]) (by kernel_rfl) (by kernel_rfl) ((maps_Keys_map_int_string_int_string_c1.e a0_yield c0 h K) ▸ hm)
def maps_Keys_map_int_string_int_string.m (a0_m : Option Nat) (h : Heap) (K : Value → Heap → Prop) : Prop :=
  new 73 .m a0_m h fun b1 h1 =>
  K (.func (.func 56) #[] #[Kd.p.val (some (Pl.mk b1 0))]) h1
theorem maps_Keys_map_int_string_int_string.e (a0_m : Option Nat) (h : Heap) (K : Value → Heap → Prop) : maps_Keys_map_int_string_int_string.m a0_m h K = fnC Try.prog tys [] Try.f44 [⟨.m, a0_m⟩] .f h (K) := by kernel_rfl
theorem maps_Keys_map_int_string_int_string.c (a0_m : Option Nat) {h : Heap} {K : Value → Heap → Prop} (hm : maps_Keys_map_int_string_int_string.m a0_m h K) : maps_Keys_map_int_string_int_string.C a0_m h K := fn_sound (an := []) tysOk tysPl follows (f := 44) (fn := Try.f44) (args := [⟨.m, a0_m⟩]) (by kernel_rfl) (by kernel_rfl) ((maps_Keys_map_int_string_int_string.e a0_m h K) ▸ hm)
def disk_Disk_Crash.m (a0_d : Option Pl) (a1_keep : Int) (h : Heap) (K : Int → Heap → Prop) : Prop :=
  if (decide (a0_d = none)) = true then K 1 h
  else nck a0_d fun l1 =>
  ld .m (l1.fld 1) h fun x1 =>
  maps_Keys_map_int_string_int_string.C x1 h fun x2 h1 =>
  slices_Sorted_int.C x2 h1 fun x3 h2 =>
  lp (.pr .i .un) (fun y1 h3 next1 =>
  if (decide (y1.1 < (x3.len : Int))) = true then (jn .un (fun J1 =>
  ix x3 y1.1 1 fun l2 =>
  ld .i l2 h3 fun x4 =>
  jn (.pr .b .un) (fun J2 =>
  if (decide (y1.1 < 62)) = true then (0 ≤ y1.1 ∧
  J2 (decide ((andI (shrI a1_keep y1.1) 1) = (1 : Int)), ()) h3)
  else J2 (false, ()) h3) fun y3 h5 =>
  jn .un (fun J3 =>
  if y3.1 = true then (nck a0_d fun l3 =>
  ld .sl (l3.fld 0) h5 fun x5 =>
  nck a0_d fun l4 =>
  ld .m (l4.fld 1) h5 fun x6 =>
  lk .i .s x6 x4 h5 fun r1 q1 =>
  ix x5 x4 1 fun l5 =>
  st .s l5 (r1.getD (⟨#[]⟩ : ByteArray)) h5 fun h7 =>
  J3 (()) h7)
  else J3 (()) h5) fun y4 h6 =>
  J1 (()) h6) fun y2 h4 =>
  next1 (w64 (y1.1 + 1), ()) h4)
  else nck a0_d fun l6 =>
  ld .m (l6.fld 1) h3 fun x7 =>
  mclr x7 h3 fun h8 =>
  K 0 h8) (0, ()) h2
theorem disk_Disk_Crash.e (a0_d : Option Pl) (a1_keep : Int) (h : Heap) (K : Int → Heap → Prop) : disk_Disk_Crash.m a0_d a1_keep h K = fnC Try.prog tys [(7, []), (18, [(16, .i)]), (24, [(29, .b)]), (29, [])] Try.f16 [⟨.p, a0_d⟩, ⟨.i, a1_keep⟩] .i h (K) := by kernel_rfl
theorem disk_Disk_Crash.c (a0_d : Option Pl) (a1_keep : Int) {h : Heap} {K : Int → Heap → Prop} (hm : disk_Disk_Crash.m a0_d a1_keep h K) : disk_Disk_Crash.C a0_d a1_keep h K := fn_sound (an := [(7, []), (18, [(16, .i)]), (24, [(29, .b)]), (29, [])]) tysOk tysPl follows (f := 16) (fn := Try.f16) (args := [⟨.p, a0_d⟩, ⟨.i, a1_keep⟩]) (by kernel_rfl) (by kernel_rfl) ((disk_Disk_Crash.e a0_d a1_keep h K) ▸ hm)
def law0_SameRecords.m (a0_a : Slc) (a1_b : Slc) (h : Heap) (K : Bool → Heap → Prop) : Prop :=
  if (!(decide ((a0_a.len : Int) = (a1_b.len : Int)))) = true then K false h
  else lp (.pr .i .un) (fun y1 h1 next1 =>
  if (decide (y1.1 < (a0_a.len : Int))) = true then (ix a0_a y1.1 2 fun l1 =>
  ld (.ag (.pr .i (.pr .s .un))) l1 h1 fun x1 =>
  ix a1_b y1.1 2 fun l2 =>
  ld (.ag (.pr .i (.pr .s .un))) l2 h1 fun x2 =>
  if (!(Kd.beq (.ag (.pr .i (.pr .s .un))) x1 x2)) = true then K false h1
  else next1 (w64 (y1.1 + 1), ()) h1)
  else K true h1) (0, ()) h
theorem law0_SameRecords.e (a0_a : Slc) (a1_b : Slc) (h : Heap) (K : Bool → Heap → Prop) : law0_SameRecords.m a0_a a1_b h K = fnC Try.prog tys [(18, [(5, .i)])] Try.f17 [⟨.sl, a0_a⟩, ⟨.sl, a1_b⟩] .b h (K) := by kernel_rfl
theorem law0_SameRecords.c (a0_a : Slc) (a1_b : Slc) {h : Heap} {K : Bool → Heap → Prop} (hm : law0_SameRecords.m a0_a a1_b h K) : law0_SameRecords.C a0_a a1_b h K := fn_sound (an := [(18, [(5, .i)])]) tysOk tysPl follows (f := 17) (fn := Try.f17) (args := [⟨.sl, a0_a⟩, ⟨.sl, a1_b⟩]) (by kernel_rfl) (by kernel_rfl) ((law0_SameRecords.e a0_a a1_b h K) ▸ hm)
def journal_Journal_Used.m (a0_j : Option Pl) (h : Heap) (K : Int → Heap → Prop) : Prop :=
  if (decide (a0_j = none)) = true then K 0 h
  else nck a0_j fun l1 =>
  ld .i (l1.fld 2) h fun x1 =>
  K x1 h
theorem journal_Journal_Used.e (a0_j : Option Pl) (h : Heap) (K : Int → Heap → Prop) : journal_Journal_Used.m a0_j h K = fnC Try.prog tys [] Try.f18 [⟨.p, a0_j⟩] .i h (K) := by kernel_rfl
theorem journal_Journal_Used.c (a0_j : Option Pl) {h : Heap} {K : Int → Heap → Prop} (hm : journal_Journal_Used.m a0_j h K) : journal_Journal_Used.C a0_j h K := fn_sound (an := []) tysOk tysPl follows (f := 18) (fn := Try.f18) (args := [⟨.p, a0_j⟩]) (by kernel_rfl) (by kernel_rfl) ((journal_Journal_Used.e a0_j h K) ▸ hm)
def law8_awake.m (h : Heap) (K : Bool → Heap → Prop) : Prop :=
  disk_New.C 4 h fun x1 x2 h1 =>
  journal_Open.C x1 h1 fun x3 x4 x5 h2 =>
  jn (.pr .b .un) (fun J1 =>
  law0_Num.C x5 h2 fun x6 h4 =>
  if (!(decide (x6 = (0 : Int)))) = true then J1 (true, ()) h4
  else if (decide (x3 = none)) = true then J1 (true, ()) h4
  else J1 (!(decide ((x4.len : Int) = (0 : Int))), ()) h4) fun y1 h3 =>
  if y1.1 = true then K false h3
  else journal_Journal_Append.C x3 (1, (⟨#[97, 98]⟩, ())) h3 fun x7 h5 =>
  journal_Journal_Sync.C x3 h5 fun x8 h6 =>
  journal_Journal_Append.C x3 (2, (⟨#[99, 100]⟩, ())) h6 fun x9 h7 =>
  disk_Disk_Crash.C x1 0 h7 fun x10 h8 =>
  journal_Open.C x1 h8 fun x11 x12 x13 h9 =>
  journal_Open.C none h9 fun x14 x15 x16 h10 =>
  journal_Journal_Append.C x3 (256, (⟨#[]⟩, ())) h10 fun x17 h11 =>
  jn (.pr .b .un) (fun J2 =>
  law0_Num.C x7 h11 fun x18 h13 =>
  if (decide (x18 = (0 : Int))) = true then (law0_Num.C x8 h13 fun x19 h14 =>
  if (decide (x19 = (0 : Int))) = true then (law0_Num.C x9 h14 fun x20 h15 =>
  if (decide (x20 = (0 : Int))) = true then (bs 34 (.ag (.pr .i (.pr .s .un))) [(1, (⟨#[97, 98]⟩, ()))] h15 fun s1 h16 =>
  law0_SameRecords.C x12 s1 h16 fun x21 h17 =>
  if x21 = true then (law0_Num.C x13 h17 fun x22 h18 =>
  if (decide (x22 = (0 : Int))) = true then (law0_Num.C x16 h18 fun x23 h19 =>
  if (decide (x23 = (1 : Int))) = true then (law0_Num.C x17 h19 fun x24 h20 =>
  if (decide (x24 = (800 : Int))) = true then (journal_Journal_Used.C x3 h20 fun x25 h21 =>
  J2 (decide (x25 = (2 : Int)), ()) h21)
  else J2 (false, ()) h20)
  else J2 (false, ()) h19)
  else J2 (false, ()) h18)
  else J2 (false, ()) h17)
  else J2 (false, ()) h15)
  else J2 (false, ()) h14)
  else J2 (false, ()) h13) fun y2 h12 =>
  K y2.1 h12
theorem law8_awake.e (h : Heap) (K : Bool → Heap → Prop) : law8_awake.m h K = fnC Try.prog tys [(12, [(37, .b)]), (48, [(0, .b)])] Try.f10 [] .b h (K) := by kernel_rfl
theorem law8_awake.c {h : Heap} {K : Bool → Heap → Prop} (hm : law8_awake.m h K) : law8_awake.C h K := fn_sound (an := [(12, [(37, .b)]), (48, [(0, .b)])]) tysOk tysPl follows (f := 10) (fn := Try.f10) (args := []) (by kernel_rfl) (by kernel_rfl) ((law8_awake.e h K) ▸ hm)
def law8_JournalSynced.m (a0_synced : Slc) (a1_loose : Slc) (a2_keep : Int) (h : Heap) (K : Bool → Heap → Prop) : Prop :=
  law8_awake.C h fun x1 h1 =>
  if (!x1) = true then K false h1
  else disk_New.C 256 h1 fun x2 x3 h2 =>
  journal_Open.C x2 h2 fun x4 x5 x6 h3 =>
  jn (.pr .b .un) (fun J1 =>
  law0_Num.C x3 h3 fun x7 h5 =>
  if (!(decide (x7 = (0 : Int)))) = true then J1 (true, ()) h5
  else law0_Num.C x6 h5 fun x8 h6 =>
  J1 (!(decide (x8 = (0 : Int))), ()) h6) fun y1 h4 =>
  if y1.1 = true then K false h4
  else lp (.pr .i (.pr .sl (.pr .i .un))) (fun y2 h7 next1 =>
  jn (.pr .b .un) (fun J2 =>
  if (decide (y2.2.2.1 < (w64 ((a0_synced.len : Int) + (a1_loose.len : Int))))) = true then J2 (decide (y2.2.2.1 < 24), ()) h7
  else J2 (false, ()) h7) fun y3 h8 =>
  if y3.1 = true then (jn (.pr .i (.pr .sl .un)) (fun J3 =>
  jn (.pr .i .un) (fun J4 =>
  if (decide (y2.2.2.1 = (a0_synced.len : Int))) = true then (journal_Journal_Sync.C x4 h8 fun x9 h11 =>
  law0_Num.C x9 h11 fun x10 h12 =>
  if (!(decide (x10 = (0 : Int)))) = true then K false h12
  else J4 ((y2.2.1.len : Int), ()) h12)
  else J4 (y2.1, ()) h8) fun y5 h10 =>
  new 34 (.ag (.pr .i (.pr .s .un))) (0, (⟨#[]⟩, ())) h10 fun b1 h13 =>
  st (.ag (.pr .i (.pr .s .un))) (Pl.mk b1 0) (0, (⟨#[]⟩, ())) h13 fun h14 =>
  jn .un (fun J5 =>
  if (decide (y2.2.2.1 < (a0_synced.len : Int))) = true then (ix a0_synced y2.2.2.1 2 fun l1 =>
  ld (.ag (.pr .i (.pr .s .un))) l1 h14 fun x11 =>
  st (.ag (.pr .i (.pr .s .un))) (Pl.mk b1 0) x11 h14 fun h16 =>
  J5 (()) h16)
  else ix a1_loose (w64 (y2.2.2.1 - (a0_synced.len : Int))) 2 fun l2 =>
  ld (.ag (.pr .i (.pr .s .un))) l2 h14 fun x12 =>
  st (.ag (.pr .i (.pr .s .un))) (Pl.mk b1 0) x12 h14 fun h17 =>
  J5 (()) h17) fun y6 h15 =>
  ld .s ((Pl.mk b1 0).fld 1) h15 fun x13 =>
  ld .s ((Pl.mk b1 0).fld 1) h15 fun x14 =>
  sls x13 0 (mn2 (x14.size : Int) 20) fun s1 =>
  st .s ((Pl.mk b1 0).fld 1) s1 h15 fun h18 =>
  ld (.ag (.pr .i (.pr .s .un))) (Pl.mk b1 0) h18 fun x15 =>
  journal_Journal_Append.C x4 x15 h18 fun x16 h19 =>
  law0_Num.C x16 h19 fun x17 h20 =>
  jn (.pr .sl .un) (fun J6 =>
  if (decide (x17 = (0 : Int))) = true then (ld (.ag (.pr .i (.pr .s .un))) (Pl.mk b1 0) h20 fun x18 =>
  bs 34 (.ag (.pr .i (.pr .s .un))) [x18] h20 fun s2 h22 =>
  slCells s2 (s2.len * 2) h22 fun cs1 =>
  ap 34 (.ag (.pr .i (.pr .s .un))) 24 y2.2.1 s2.len cs1 h22 fun s3 h23 =>
  J6 (s3, ()) h23)
  else J6 (y2.2.1, ()) h20) fun y7 h21 =>
  J3 (y5.1, y7.1, ()) h21) fun y4 h9 =>
  next1 (y4.1, y4.2.1, w64 (y2.2.2.1 + 1), ()) h9)
  else disk_Disk_Crash.C x2 a2_keep h8 fun x19 h24 =>
  journal_Open.C x2 h24 fun x20 x21 x22 h25 =>
  jn (.pr .b .un) (fun J7 =>
  law0_Num.C x22 h25 fun x23 h27 =>
  if (decide (x23 = (0 : Int))) = true then (if (decide ((x21.len : Int) ≥ y2.1)) = true then (if (decide ((x21.len : Int) ≤ (y2.2.1.len : Int))) = true then (slx y2.2.1 0 (x21.len : Int) (y2.2.1.cap : Int) 2 fun s4 =>
  law0_SameRecords.C x21 s4 h27 fun x24 h28 =>
  J7 (x24, ()) h28)
  else J7 (false, ()) h27)
  else J7 (false, ()) h27)
  else J7 (false, ()) h27) fun y8 h26 =>
  K y8.1 h26) (0, ⟨none, 0, 0⟩, 0, ()) h4
theorem law8_JournalSynced.e (a0_synced : Slc) (a1_loose : Slc) (a2_keep : Int) (h : Heap) (K : Bool → Heap → Prop) : law8_JournalSynced.m a0_synced a1_loose a2_keep h K = fnC Try.prog tys [(7, [(13, .i), (12, .sl)]), (20, [(40, .b)]), (40, [(51, .b)]), (42, [(13, .i), (12, .sl), (14, .i)]), (53, [(13, .i)]), (77, []), (97, [(12, .sl)]), (108, [(6, .b)])] Try.f3 [⟨.sl, a0_synced⟩, ⟨.sl, a1_loose⟩, ⟨.i, a2_keep⟩] .b h (K) := by kernel_rfl
theorem law8_JournalSynced.c (a0_synced : Slc) (a1_loose : Slc) (a2_keep : Int) {h : Heap} {K : Bool → Heap → Prop} (hm : law8_JournalSynced.m a0_synced a1_loose a2_keep h K) : law8_JournalSynced.C a0_synced a1_loose a2_keep h K := fn_sound (an := [(7, [(13, .i), (12, .sl)]), (20, [(40, .b)]), (40, [(51, .b)]), (42, [(13, .i), (12, .sl), (14, .i)]), (53, [(13, .i)]), (77, []), (97, [(12, .sl)]), (108, [(6, .b)])]) tysOk tysPl follows (f := 3) (fn := Try.f3) (args := [⟨.sl, a0_synced⟩, ⟨.sl, a1_loose⟩, ⟨.i, a2_keep⟩]) (by kernel_rfl) (by kernel_rfl) ((law8_JournalSynced.e a0_synced a1_loose a2_keep h K) ▸ hm)
def law8_JournalFull.m (a0_sectors : Int) (a1_size : Int) (h : Heap) (K : Bool → Heap → Prop) : Prop :=
  law8_awake.C h fun x1 h1 =>
  if (!x1) = true then K false h1
  else disk_New.C (w64 (1 + (andI a0_sectors 15))) h1 fun x2 x3 h2 =>
  journal_Open.C x2 h2 fun x4 x5 x6 h3 =>
  jn (.pr .b .un) (fun J1 =>
  law0_Num.C x3 h3 fun x7 h5 =>
  if (!(decide (x7 = (0 : Int)))) = true then J1 (true, ()) h5
  else law0_Num.C x6 h5 fun x8 h6 =>
  if (!(decide (x8 = (0 : Int)))) = true then J1 (true, ()) h6
  else J1 (decide (x4 = none), ()) h6) fun y1 h4 =>
  if y1.1 = true then K false h4
  else (64 : Int) ≠ 0 ∧
  lp (.pr .i (.pr .i .un)) (fun y2 h7 next1 =>
  if (decide (y2.2.1 < 20)) = true then (jn (.pr .i .un) (fun J2 =>
  mk 5 .u8 1 (andI a1_size 127) (andI a1_size 127) h7 fun s1 h9 =>
  b2s s1 h9 fun s2 q1 =>
  journal_Journal_Append.C x4 (1, (s2, ())) h9 fun x9 h10 =>
  law0_Num.C x9 h10 fun x10 h11 =>
  if (!(decide ((decide (x10 = (0 : Int))) = (decide ((w64 ((w64 (y2.1 + 1)) * (w64 ((w64 ((w64 ((w64 ((w64 (9 + (andI a1_size 127))) + 32)) + 64)) - 1)).tdiv 64)))) ≤ (w64 (1 + (andI a0_sectors 15)))))))) = true then K false h11
  else law0_Num.C x9 h11 fun x11 h12 =>
  jn (.pr .i .un) (fun J3 =>
  if (decide (x11 = (0 : Int))) = true then J3 (w64 (y2.1 + 1), ()) h12
  else law0_Num.C x9 h12 fun x12 h14 =>
  if (!(decide (x12 = (801 : Int)))) = true then K false h14
  else J3 (y2.1, ()) h14) fun y4 h13 =>
  journal_Journal_Used.C x4 h13 fun x13 h15 =>
  if (!(decide (x13 = (w64 (y4.1 * (w64 ((w64 ((w64 ((w64 ((w64 (9 + (andI a1_size 127))) + 32)) + 64)) - 1)).tdiv 64))))))) = true then K false h15
  else J2 (y4.1, ()) h15) fun y3 h8 =>
  next1 (y3.1, w64 (y2.2.1 + 1), ()) h8)
  else journal_Open.C x2 h7 fun x14 x15 x16 h16 =>
  jn (.pr .b .un) (fun J4 =>
  law0_Num.C x16 h16 fun x17 h18 =>
  if (decide (x17 = (0 : Int))) = true then J4 (decide ((x15.len : Int) = y2.1), ()) h18
  else J4 (false, ()) h18) fun y5 h17 =>
  K y5.1 h17) (0, 0, ()) h4
theorem law8_JournalFull.e (a0_sectors : Int) (a1_size : Int) (h : Heap) (K : Bool → Heap → Prop) : law8_JournalFull.m a0_sectors a1_size h K = fnC Try.prog tys [(7, [(13, .i)]), (28, [(48, .b)]), (50, [(13, .i), (14, .i)]), (73, [(13, .i)]), (96, [(4, .b)])] Try.f4 [⟨.i, a0_sectors⟩, ⟨.i, a1_size⟩] .b h (K) := by kernel_rfl
theorem law8_JournalFull.c (a0_sectors : Int) (a1_size : Int) {h : Heap} {K : Bool → Heap → Prop} (hm : law8_JournalFull.m a0_sectors a1_size h K) : law8_JournalFull.C a0_sectors a1_size h K := fn_sound (an := [(7, [(13, .i)]), (28, [(48, .b)]), (50, [(13, .i), (14, .i)]), (73, [(13, .i)]), (96, [(4, .b)])]) tysOk tysPl follows (f := 4) (fn := Try.f4) (args := [⟨.i, a0_sectors⟩, ⟨.i, a1_size⟩]) (by kernel_rfl) (by kernel_rfl) ((law8_JournalFull.e a0_sectors a1_size h K) ▸ hm)
def law8_JournalGoes.m (a0_first : Slc) (a1_then : Slc) (h : Heap) (K : Bool → Heap → Prop) : Prop :=
  law8_awake.C h fun x1 h1 =>
  if (!x1) = true then K false h1
  else disk_New.C 256 h1 fun x2 x3 h2 =>
  lp (.pr .sl (.pr .i .un)) (fun y1 h3 next1 =>
  if (decide (y1.2.1 < 2)) = true then (jn (.pr .sl .un) (fun J1 =>
  journal_Open.C x2 h3 fun x4 x5 x6 h5 =>
  jn (.pr .b .un) (fun J2 =>
  law0_Num.C x6 h5 fun x7 h7 =>
  if (!(decide (x7 = (0 : Int)))) = true then J2 (true, ()) h7
  else if (decide (x4 = none)) = true then J2 (true, ()) h7
  else law0_SameRecords.C x5 y1.1 h7 fun x8 h8 =>
  J2 (!x8, ()) h8) fun y3 h6 =>
  if y3.1 = true then K false h6
  else jn (.pr .sl .un) (fun J3 =>
  if (decide (y1.2.1 = (1 : Int))) = true then J3 (a1_then, ()) h6
  else J3 (a0_first, ()) h6) fun y4 h9 =>
  lp (.pr .sl (.pr .i .un)) (fun y5 h10 next2 =>
  jn (.pr .b .un) (fun J4 =>
  if (decide (y5.2.1 < (y4.1.len : Int))) = true then J4 (decide (y5.2.1 < 9), ()) h10
  else J4 (false, ()) h10) fun y6 h11 =>
  if y6.1 = true then (jn (.pr .sl .un) (fun J5 =>
  ix y4.1 y5.2.1 2 fun l1 =>
  ld (.ag (.pr .i (.pr .s .un))) l1 h11 fun x9 =>
  journal_Journal_Append.C x4 x9 h11 fun x10 h13 =>
  law0_Num.C x10 h13 fun x11 h14 =>
  jn (.pr .sl .un) (fun J6 =>
  if (decide (x11 = (0 : Int))) = true then (ix y4.1 y5.2.1 2 fun l2 =>
  ld (.ag (.pr .i (.pr .s .un))) l2 h14 fun x12 =>
  bs 34 (.ag (.pr .i (.pr .s .un))) [x12] h14 fun s1 h16 =>
  slCells s1 (s1.len * 2) h16 fun cs1 =>
  ap 34 (.ag (.pr .i (.pr .s .un))) 24 y5.1 s1.len cs1 h16 fun s2 h17 =>
  J6 (s2, ()) h17)
  else J6 (y5.1, ()) h14) fun y8 h15 =>
  J5 (y8.1, ()) h15) fun y7 h12 =>
  next2 (y7.1, w64 (y5.2.1 + 1), ()) h12)
  else J1 (y5.1, ()) h11) (y1.1, 0, ()) h9) fun y2 h4 =>
  next1 (y2.1, w64 (y1.2.1 + 1), ()) h4)
  else journal_Open.C x2 h3 fun x13 x14 x15 h18 =>
  jn (.pr .b .un) (fun J7 =>
  law0_Num.C x15 h18 fun x16 h20 =>
  if (decide (x16 = (0 : Int))) = true then (law0_SameRecords.C x14 y1.1 h20 fun x17 h21 =>
  J7 (x17, ()) h21)
  else J7 (false, ()) h20) fun y9 h19 =>
  K y9.1 h19) (⟨none, 0, 0⟩, 0, ()) h2
theorem law8_JournalGoes.e (a0_first : Slc) (a1_then : Slc) (h : Heap) (K : Bool → Heap → Prop) : law8_JournalGoes.m a0_first a1_then h K = fnC Try.prog tys [(7, [(7, .sl)]), (15, [(7, .sl)]), (26, [(7, .sl), (8, .i)]), (36, [(46, .b)]), (53, [(12, .sl)]), (60, [(58, .b)]), (62, [(7, .sl), (13, .i)]), (77, [(7, .sl)]), (84, [(4, .b)])] Try.f5 [⟨.sl, a0_first⟩, ⟨.sl, a1_then⟩] .b h (K) := by kernel_rfl
theorem law8_JournalGoes.c (a0_first : Slc) (a1_then : Slc) {h : Heap} {K : Bool → Heap → Prop} (hm : law8_JournalGoes.m a0_first a1_then h K) : law8_JournalGoes.C a0_first a1_then h K := fn_sound (an := [(7, [(7, .sl)]), (15, [(7, .sl)]), (26, [(7, .sl), (8, .i)]), (36, [(46, .b)]), (53, [(12, .sl)]), (60, [(58, .b)]), (62, [(7, .sl), (13, .i)]), (77, [(7, .sl)]), (84, [(4, .b)])]) tysOk tysPl follows (f := 5) (fn := Try.f5) (args := [⟨.sl, a0_first⟩, ⟨.sl, a1_then⟩]) (by kernel_rfl) (by kernel_rfl) ((law8_JournalGoes.e a0_first a1_then h K) ▸ hm)
def law8_JournalStale.m (a0_kept : Slc) (a1_lost : Slc) (a2_again : Slc) (a3_keep : Int) (h : Heap) (K : Bool → Heap → Prop) : Prop :=
  law8_awake.C h fun x1 h1 =>
  if (!x1) = true then K false h1
  else disk_New.C 256 h1 fun x2 x3 h2 =>
  journal_Open.C x2 h2 fun x4 x5 x6 h3 =>
  jn (.pr .b .un) (fun J1 =>
  law0_Num.C x6 h3 fun x7 h5 =>
  if (!(decide (x7 = (0 : Int)))) = true then J1 (true, ()) h5
  else J1 (decide (x4 = none), ()) h5) fun y1 h4 =>
  if y1.1 = true then K false h4
  else lp (.pr .i .un) (fun y2 h6 next1 =>
  jn (.pr .b .un) (fun J2 =>
  if (decide (y2.1 < (a0_kept.len : Int))) = true then J2 (decide (y2.1 < 5), ()) h6
  else J2 (false, ()) h6) fun y3 h7 =>
  if y3.1 = true then (ix a0_kept y2.1 2 fun l1 =>
  ld (.ag (.pr .i (.pr .s .un))) l1 h7 fun x8 =>
  new 34 (.ag (.pr .i (.pr .s .un))) (0, (⟨#[]⟩, ())) h7 fun b1 h8 =>
  st (.ag (.pr .i (.pr .s .un))) (Pl.mk b1 0) x8 h8 fun h9 =>
  ld .s ((Pl.mk b1 0).fld 1) h9 fun x9 =>
  ld .s ((Pl.mk b1 0).fld 1) h9 fun x10 =>
  sls x9 0 (mn2 (x10.size : Int) 20) fun s1 =>
  st .s ((Pl.mk b1 0).fld 1) s1 h9 fun h10 =>
  ld (.ag (.pr .i (.pr .s .un))) (Pl.mk b1 0) h10 fun x11 =>
  journal_Journal_Append.C x4 x11 h10 fun x12 h11 =>
  next1 (w64 (y2.1 + 1), ()) h11)
  else journal_Journal_Sync.C x4 h7 fun x13 h12 =>
  lp (.pr .i .un) (fun y4 h13 next2 =>
  jn (.pr .b .un) (fun J3 =>
  if (decide (y4.1 < (a1_lost.len : Int))) = true then J3 (decide (y4.1 < 6), ()) h13
  else J3 (false, ()) h13) fun y5 h14 =>
  if y5.1 = true then (ix a1_lost y4.1 2 fun l2 =>
  ld (.ag (.pr .i (.pr .s .un))) l2 h14 fun x14 =>
  new 34 (.ag (.pr .i (.pr .s .un))) (0, (⟨#[]⟩, ())) h14 fun b2 h15 =>
  st (.ag (.pr .i (.pr .s .un))) (Pl.mk b2 0) x14 h15 fun h16 =>
  ld .s ((Pl.mk b2 0).fld 1) h16 fun x15 =>
  ld .s ((Pl.mk b2 0).fld 1) h16 fun x16 =>
  sls x15 0 (mn2 (x16.size : Int) 20) fun s2 =>
  st .s ((Pl.mk b2 0).fld 1) s2 h16 fun h17 =>
  ld (.ag (.pr .i (.pr .s .un))) (Pl.mk b2 0) h17 fun x17 =>
  journal_Journal_Append.C x4 x17 h17 fun x18 h18 =>
  next2 (w64 (y4.1 + 1), ()) h18)
  else disk_Disk_Crash.C x2 a3_keep h14 fun x19 h19 =>
  journal_Open.C x2 h19 fun x20 x21 x22 h20 =>
  jn (.pr .b .un) (fun J4 =>
  law0_Num.C x22 h20 fun x23 h22 =>
  if (!(decide (x23 = (0 : Int)))) = true then J4 (true, ()) h22
  else J4 (decide (x20 = none), ()) h22) fun y6 h21 =>
  if y6.1 = true then K false h21
  else lp (.pr .sl (.pr .i .un)) (fun y7 h23 next3 =>
  jn (.pr .b .un) (fun J5 =>
  if (decide (y7.2.1 < (a2_again.len : Int))) = true then J5 (decide (y7.2.1 < 6), ()) h23
  else J5 (false, ()) h23) fun y8 h24 =>
  if y8.1 = true then (jn (.pr .sl .un) (fun J6 =>
  ix a2_again y7.2.1 2 fun l3 =>
  ld (.ag (.pr .i (.pr .s .un))) l3 h24 fun x24 =>
  new 34 (.ag (.pr .i (.pr .s .un))) (0, (⟨#[]⟩, ())) h24 fun b3 h26 =>
  st (.ag (.pr .i (.pr .s .un))) (Pl.mk b3 0) x24 h26 fun h27 =>
  ld .s ((Pl.mk b3 0).fld 1) h27 fun x25 =>
  ld .s ((Pl.mk b3 0).fld 1) h27 fun x26 =>
  sls x25 0 (mn2 (x26.size : Int) 20) fun s3 =>
  st .s ((Pl.mk b3 0).fld 1) s3 h27 fun h28 =>
  ld (.ag (.pr .i (.pr .s .un))) (Pl.mk b3 0) h28 fun x27 =>
  journal_Journal_Append.C x20 x27 h28 fun x28 h29 =>
  law0_Num.C x28 h29 fun x29 h30 =>
  jn (.pr .sl .un) (fun J7 =>
  if (decide (x29 = (0 : Int))) = true then (ld (.ag (.pr .i (.pr .s .un))) (Pl.mk b3 0) h30 fun x30 =>
  bs 34 (.ag (.pr .i (.pr .s .un))) [x30] h30 fun s4 h32 =>
  slCells s4 (s4.len * 2) h32 fun cs1 =>
  ap 34 (.ag (.pr .i (.pr .s .un))) 24 y7.1 s4.len cs1 h32 fun s5 h33 =>
  J7 (s5, ()) h33)
  else J7 (y7.1, ()) h30) fun y10 h31 =>
  J6 (y10.1, ()) h31) fun y9 h25 =>
  next3 (y9.1, w64 (y7.2.1 + 1), ()) h25)
  else journal_Journal_Sync.C x20 h24 fun x31 h34 =>
  journal_Open.C x2 h34 fun x32 x33 x34 h35 =>
  jn (.pr .b .un) (fun J8 =>
  law0_Num.C x34 h35 fun x35 h37 =>
  if (decide (x35 = (0 : Int))) = true then (law0_SameRecords.C x33 y7.1 h37 fun x36 h38 =>
  J8 (x36, ()) h38)
  else J8 (false, ()) h37) fun y11 h36 =>
  K y11.1 h36) (x21, 0, ()) h21) (0, ()) h12) (0, ()) h4
theorem law8_JournalStale.e (a0_kept : Slc) (a1_lost : Slc) (a2_again : Slc) (a3_keep : Int) (h : Heap) (K : Bool → Heap → Prop) : law8_JournalStale.m a0_kept a1_lost a2_again a3_keep h K = fnC Try.prog tys [(20, [(45, .b)]), (23, [(19, .sl)]), (32, [(53, .b)]), (34, [(14, .i)]), (60, [(80, .b)]), (62, [(16, .i)]), (88, [(113, .b)]), (100, [(121, .b)]), (102, [(19, .sl), (21, .i)]), (125, [(19, .sl)]), (136, [(8, .b)])] Try.f6 [⟨.sl, a0_kept⟩, ⟨.sl, a1_lost⟩, ⟨.sl, a2_again⟩, ⟨.i, a3_keep⟩] .b h (K) := by kernel_rfl
theorem law8_JournalStale.c (a0_kept : Slc) (a1_lost : Slc) (a2_again : Slc) (a3_keep : Int) {h : Heap} {K : Bool → Heap → Prop} (hm : law8_JournalStale.m a0_kept a1_lost a2_again a3_keep h K) : law8_JournalStale.C a0_kept a1_lost a2_again a3_keep h K := fn_sound (an := [(20, [(45, .b)]), (23, [(19, .sl)]), (32, [(53, .b)]), (34, [(14, .i)]), (60, [(80, .b)]), (62, [(16, .i)]), (88, [(113, .b)]), (100, [(121, .b)]), (102, [(19, .sl), (21, .i)]), (125, [(19, .sl)]), (136, [(8, .b)])]) tysOk tysPl follows (f := 6) (fn := Try.f6) (args := [⟨.sl, a0_kept⟩, ⟨.sl, a1_lost⟩, ⟨.sl, a2_again⟩, ⟨.i, a3_keep⟩]) (by kernel_rfl) (by kernel_rfl) ((law8_JournalStale.e a0_kept a1_lost a2_again a3_keep h K) ▸ hm)
def ref7_NewDisk.m (a0_sectors : Int) (h : Heap) (K : Option Pl → Int → Heap → Prop) : Prop :=
  jn (.pr .b .un) (fun J1 =>
  if (decide (a0_sectors < 1)) = true then J1 (true, ()) h
  else J1 (decide (a0_sectors > 256), ()) h) fun y1 h1 =>
  if y1.1 = true then K none 700 h1
  else mk 4 .b 1 a0_sectors a0_sectors h1 fun s1 h2 =>
  new 91 (.ag (.pr .sl (.pr .sl (.pr .sl .un)))) (⟨none, 0, 0⟩, (⟨none, 0, 0⟩, (s1, ()))) h2 fun b1 h3 =>
  lp (.pr .i .un) (fun y2 h4 next1 =>
  if (decide (y2.1 < a0_sectors)) = true then (nck (some (Pl.mk b1 0)) fun l1 =>
  ld .sl (l1.fld 0) h4 fun x1 =>
  mk 5 .u8 1 64 64 h4 fun s2 h5 =>
  sm .sl (l1.fld 0) x1 h5 ∧ 
  b2s s2 h5 fun s3 q1 =>
  bs 9 .s [s3] h5 fun s4 h6 =>
  sm .sl (l1.fld 0) x1 h6 ∧ 
  slCells s4 (s4.len * 1) h6 fun cs1 =>
  ap 9 .s 16 x1 s4.len cs1 h6 fun s5 h7 =>
  nck (some (Pl.mk b1 0)) fun l2 =>
  st .sl (l2.fld 0) s5 h7 fun h8 =>
  nck (some (Pl.mk b1 0)) fun l3 =>
  ld .sl (l3.fld 1) h8 fun x2 =>
  mk 5 .u8 1 64 64 h8 fun s6 h9 =>
  sm .sl (l3.fld 1) x2 h9 ∧ 
  b2s s6 h9 fun s7 q2 =>
  bs 9 .s [s7] h9 fun s8 h10 =>
  sm .sl (l3.fld 1) x2 h10 ∧ 
  slCells s8 (s8.len * 1) h10 fun cs2 =>
  ap 9 .s 16 x2 s8.len cs2 h10 fun s9 h11 =>
  nck (some (Pl.mk b1 0)) fun l4 =>
  st .sl (l4.fld 1) s9 h11 fun h12 =>
  next1 (w64 (y2.1 + 1), ()) h12)
  else K (some (Pl.mk b1 0)) 0 h4) (0, ()) h3
theorem ref7_NewDisk.e (a0_sectors : Int) (h : Heap) (K : Option Pl → Int → Heap → Prop) : ref7_NewDisk.m a0_sectors h K = fnC Try.prog tys [(4, [(11, .b)]), (22, [(5, .i)])] Try.f19 [⟨.i, a0_sectors⟩] (.tp (.pr .p (.pr .i .un))) h (fun x h => K x.1 x.2.1 h) := by kernel_rfl
theorem ref7_NewDisk.c (a0_sectors : Int) {h : Heap} {K : Option Pl → Int → Heap → Prop} (hm : ref7_NewDisk.m a0_sectors h K) : ref7_NewDisk.C a0_sectors h K := fn_sound (an := [(4, [(11, .b)]), (22, [(5, .i)])]) tysOk tysPl follows (f := 19) (fn := Try.f19) (args := [⟨.i, a0_sectors⟩]) (by kernel_rfl) (by kernel_rfl) ((ref7_NewDisk.e a0_sectors h K) ▸ hm)
def ref1_Be.m (a0_x : Int) (a1_size : Int) (h : Heap) (K : ByteArray → Heap → Prop) : Prop :=
  mk 5 .u8 1 a1_size a1_size h fun s1 h1 =>
  lp (.pr .i (.pr .i .un)) (fun y1 h2 next1 =>
  if (decide (y1.2.1 ≥ 0)) = true then (ix s1 y1.2.1 1 fun l1 =>
  st .u8 l1 (u8I (andI y1.1 255)) h2 fun h3 =>
  0 ≤ (((8 : UInt64).toNat : Int) : Int) ∧
  next1 (shrI y1.1 ((8 : UInt64).toNat : Int), w64 (y1.2.1 - 1), ()) h3)
  else b2s s1 h2 fun s2 q1 =>
  K s2 h2) (a0_x, w64 (a1_size - 1), ()) h1
theorem ref1_Be.e (a0_x : Int) (a1_size : Int) (h : Heap) (K : ByteArray → Heap → Prop) : ref1_Be.m a0_x a1_size h K = fnC Try.prog tys [(14, [(0, .i), (6, .i)])] Try.f35 [⟨.i, a0_x⟩, ⟨.i, a1_size⟩] .s h (K) := by kernel_rfl
theorem ref1_Be.c (a0_x : Int) (a1_size : Int) {h : Heap} {K : ByteArray → Heap → Prop} (hm : ref1_Be.m a0_x a1_size h K) : ref1_Be.C a0_x a1_size h K := fn_sound (an := [(14, [(0, .i), (6, .i)])]) tysOk tysPl follows (f := 35) (fn := Try.f35) (args := [⟨.i, a0_x⟩, ⟨.i, a1_size⟩]) (by kernel_rfl) (by kernel_rfl) ((ref1_Be.e a0_x a1_size h K) ▸ hm)
def ref1_T.m (a0_h : Kd.Ty (Kd.ar 32 .u8)) (h : Heap) (K : ByteArray → Heap → Prop) : Prop :=
  new 62 (.ar 32 .u8) a0_h h fun b1 h1 =>
  sla (Pl.mk b1 0) 32 0 32 1 fun s1 =>
  b2s s1 h1 fun s2 q1 =>
  K s2 h1
theorem ref1_T.e (a0_h : Kd.Ty (Kd.ar 32 .u8)) (h : Heap) (K : ByteArray → Heap → Prop) : ref1_T.m a0_h h K = fnC Try.prog tys [] Try.f33 [⟨(.ar 32 .u8), a0_h⟩] .s h (K) := by kernel_rfl
theorem ref1_T.c (a0_h : Kd.Ty (Kd.ar 32 .u8)) {h : Heap} {K : ByteArray → Heap → Prop} (hm : ref1_T.m a0_h h K) : ref1_T.C a0_h h K := fn_sound (an := []) tysOk tysPl follows (f := 33) (fn := Try.f33) (args := [⟨(.ar 32 .u8), a0_h⟩]) (by kernel_rfl) (by kernel_rfl) ((ref1_T.e a0_h h K) ▸ hm)
def ref1_rot.m (a0_x : UInt32) (a1_k : Int) (h : Heap) (K : UInt32 → Heap → Prop) : Prop :=
  0 ≤ a1_k ∧
  0 ≤ w64 (32 - a1_k) ∧
  K ((shU32 .shr a0_x a1_k) ||| (shU32 .shl a0_x (w64 (32 - a1_k)))) h
theorem ref1_rot.e (a0_x : UInt32) (a1_k : Int) (h : Heap) (K : UInt32 → Heap → Prop) : ref1_rot.m a0_x a1_k h K = fnC Try.prog tys [] Try.f77 [⟨.u32, a0_x⟩, ⟨.i, a1_k⟩] .u32 h (K) := by kernel_rfl
theorem ref1_rot.c (a0_x : UInt32) (a1_k : Int) {h : Heap} {K : UInt32 → Heap → Prop} (hm : ref1_rot.m a0_x a1_k h K) : ref1_rot.C a0_x a1_k h K := fn_sound (an := []) tysOk tysPl follows (f := 77) (fn := Try.f77) (args := [⟨.u32, a0_x⟩, ⟨.i, a1_k⟩]) (by kernel_rfl) (by kernel_rfl) ((ref1_rot.e a0_x a1_k h K) ▸ hm)
def ref1_block256.m (a0_h : Kd.Ty (Kd.ar 8 .u32)) (a1_s : ByteArray) (h : Heap) (K : Kd.Ty (Kd.ar 8 .u32) → Heap → Prop) : Prop :=
  new 112 (.ar 8 .u32) a0_h h fun b1 h1 =>
  new 112 (.ar 8 .u32) (Vector.replicate 8 0) h1 fun b2 h2 =>
  new 139 (.ar 64 .u32) (Vector.replicate 64 0) h2 fun b3 h3 =>
  st (.ar 64 .u32) (Pl.mk b3 0) (((((((((((((((((((((((((((((((((((((((((((((((((((((((((((((((((Vector.replicate 64 (0 : UInt32)).setIfInBounds 0 1116352408).setIfInBounds 1 1899447441).setIfInBounds 2 3049323471).setIfInBounds 3 3921009573).setIfInBounds 4 961987163).setIfInBounds 5 1508970993).setIfInBounds 6 2453635748).setIfInBounds 7 2870763221).setIfInBounds 8 3624381080).setIfInBounds 9 310598401).setIfInBounds 10 607225278).setIfInBounds 11 1426881987).setIfInBounds 12 1925078388).setIfInBounds 13 2162078206).setIfInBounds 14 2614888103).setIfInBounds 15 3248222580).setIfInBounds 16 3835390401).setIfInBounds 17 4022224774).setIfInBounds 18 264347078).setIfInBounds 19 604807628).setIfInBounds 20 770255983).setIfInBounds 21 1249150122).setIfInBounds 22 1555081692).setIfInBounds 23 1996064986).setIfInBounds 24 2554220882).setIfInBounds 25 2821834349).setIfInBounds 26 2952996808).setIfInBounds 27 3210313671).setIfInBounds 28 3336571891).setIfInBounds 29 3584528711).setIfInBounds 30 113926993).setIfInBounds 31 338241895).setIfInBounds 32 666307205).setIfInBounds 33 773529912).setIfInBounds 34 1294757372).setIfInBounds 35 1396182291).setIfInBounds 36 1695183700).setIfInBounds 37 1986661051).setIfInBounds 38 2177026350).setIfInBounds 39 2456956037).setIfInBounds 40 2730485921).setIfInBounds 41 2820302411).setIfInBounds 42 3259730800).setIfInBounds 43 3345764771).setIfInBounds 44 3516065817).setIfInBounds 45 3600352804).setIfInBounds 46 4094571909).setIfInBounds 47 275423344).setIfInBounds 48 430227734).setIfInBounds 49 506948616).setIfInBounds 50 659060556).setIfInBounds 51 883997877).setIfInBounds 52 958139571).setIfInBounds 53 1322822218).setIfInBounds 54 1537002063).setIfInBounds 55 1747873779).setIfInBounds 56 1955562222).setIfInBounds 57 2024104815).setIfInBounds 58 2227730452).setIfInBounds 59 2361852424).setIfInBounds 60 2428436474).setIfInBounds 61 2756734187).setIfInBounds 62 3204031479).setIfInBounds 63 3329325298) h3 fun h4 =>
  new 139 (.ar 64 .u32) (Vector.replicate 64 0) h4 fun b4 h5 =>
  lp (.pr .i .un) (fun y1 h6 next1 =>
  if (decide (y1.1 < 16)) = true then (ixs a1_s (w64 (4 * y1.1)) fun c1 =>
  0 ≤ (((24 : UInt64).toNat : Int) : Int) ∧
  ixs a1_s (w64 ((w64 (4 * y1.1)) + 1)) fun c2 =>
  0 ≤ (((16 : UInt64).toNat : Int) : Int) ∧
  ixs a1_s (w64 ((w64 (4 * y1.1)) + 2)) fun c3 =>
  0 ≤ (((8 : UInt64).toNat : Int) : Int) ∧
  ixs a1_s (w64 ((w64 (4 * y1.1)) + 3)) fun c4 =>
  ixa (Pl.mk b4 0) 64 y1.1 1 fun l1 =>
  st .u32 l1 ((((shU32 .shl (UInt32.ofNat c1.toNat) ((24 : UInt64).toNat : Int)) ||| (shU32 .shl (UInt32.ofNat c2.toNat) ((16 : UInt64).toNat : Int))) ||| (shU32 .shl (UInt32.ofNat c3.toNat) ((8 : UInt64).toNat : Int))) ||| (UInt32.ofNat c4.toNat)) h6 fun h7 =>
  next1 (w64 (y1.1 + 1), ()) h7)
  else lp (.pr .i .un) (fun y2 h8 next2 =>
  if (decide (y2.1 < 64)) = true then (ixa (Pl.mk b4 0) 64 (w64 (y2.1 - 15)) 1 fun l2 =>
  ld .u32 l2 h8 fun x1 =>
  ixa (Pl.mk b4 0) 64 (w64 (y2.1 - 15)) 1 fun l3 =>
  ld .u32 l3 h8 fun x2 =>
  ixa (Pl.mk b4 0) 64 (w64 (y2.1 - 15)) 1 fun l4 =>
  ld .u32 l4 h8 fun x3 =>
  0 ≤ (((3 : UInt64).toNat : Int) : Int) ∧
  ref1_rot.C x1 7 h8 fun x4 h9 =>
  sm .u32 l4 x3 h9 ∧ sm .u32 l3 x2 h9 ∧ 
  ref1_rot.C x2 18 h9 fun x5 h10 =>
  sm .u32 l4 x3 h10 ∧ 
  ixa (Pl.mk b4 0) 64 (w64 (y2.1 - 2)) 1 fun l5 =>
  ld .u32 l5 h10 fun x6 =>
  ixa (Pl.mk b4 0) 64 (w64 (y2.1 - 2)) 1 fun l6 =>
  ld .u32 l6 h10 fun x7 =>
  ixa (Pl.mk b4 0) 64 (w64 (y2.1 - 2)) 1 fun l7 =>
  ld .u32 l7 h10 fun x8 =>
  0 ≤ (((10 : UInt64).toNat : Int) : Int) ∧
  ref1_rot.C x6 17 h10 fun x9 h11 =>
  sm .u32 l7 x8 h11 ∧ sm .u32 l6 x7 h11 ∧ 
  ref1_rot.C x7 19 h11 fun x10 h12 =>
  sm .u32 l7 x8 h12 ∧ 
  ixa (Pl.mk b4 0) 64 (w64 (y2.1 - 16)) 1 fun l8 =>
  ld .u32 l8 h12 fun x11 =>
  ixa (Pl.mk b4 0) 64 (w64 (y2.1 - 7)) 1 fun l9 =>
  ld .u32 l9 h12 fun x12 =>
  ixa (Pl.mk b4 0) 64 y2.1 1 fun l10 =>
  st .u32 l10 (((x11 + ((x4 ^^^ x5) ^^^ (shU32 .shr x3 ((3 : UInt64).toNat : Int)))) + x12) + ((x9 ^^^ x10) ^^^ (shU32 .shr x8 ((10 : UInt64).toNat : Int)))) h12 fun h13 =>
  next2 (w64 (y2.1 + 1), ()) h13)
  else ld (.ar 8 .u32) (Pl.mk b1 0) h8 fun x13 =>
  new 112 (.ar 8 .u32) (Vector.replicate 8 0) h8 fun b5 h14 =>
  st (.ar 8 .u32) (Pl.mk b5 0) x13 h14 fun h15 =>
  lp (.pr .i .un) (fun y3 h16 next3 =>
  if (decide (y3.1 < 64)) = true then (ixa (Pl.mk b5 0) 8 4 1 fun l11 =>
  ld .u32 l11 h16 fun x14 =>
  ixa (Pl.mk b5 0) 8 4 1 fun l12 =>
  ld .u32 l12 h16 fun x15 =>
  ixa (Pl.mk b5 0) 8 4 1 fun l13 =>
  ld .u32 l13 h16 fun x16 =>
  ref1_rot.C x14 6 h16 fun x17 h17 =>
  sm .u32 l13 x16 h17 ∧ sm .u32 l12 x15 h17 ∧ 
  ref1_rot.C x15 11 h17 fun x18 h18 =>
  sm .u32 l13 x16 h18 ∧ 
  ref1_rot.C x16 25 h18 fun x19 h19 =>
  ixa (Pl.mk b5 0) 8 7 1 fun l14 =>
  ld .u32 l14 h19 fun x20 =>
  ixa (Pl.mk b5 0) 8 4 1 fun l15 =>
  ld .u32 l15 h19 fun x21 =>
  ixa (Pl.mk b5 0) 8 5 1 fun l16 =>
  ld .u32 l16 h19 fun x22 =>
  ixa (Pl.mk b5 0) 8 4 1 fun l17 =>
  ld .u32 l17 h19 fun x23 =>
  ixa (Pl.mk b5 0) 8 6 1 fun l18 =>
  ld .u32 l18 h19 fun x24 =>
  ixa (Pl.mk b3 0) 64 y3.1 1 fun l19 =>
  ld .u32 l19 h19 fun x25 =>
  ixa (Pl.mk b4 0) 64 y3.1 1 fun l20 =>
  ld .u32 l20 h19 fun x26 =>
  ixa (Pl.mk b5 0) 8 0 1 fun l21 =>
  ld .u32 l21 h19 fun x27 =>
  ixa (Pl.mk b5 0) 8 0 1 fun l22 =>
  ld .u32 l22 h19 fun x28 =>
  ixa (Pl.mk b5 0) 8 0 1 fun l23 =>
  ld .u32 l23 h19 fun x29 =>
  ref1_rot.C x27 2 h19 fun x30 h20 =>
  sm .u32 l23 x29 h20 ∧ sm .u32 l22 x28 h20 ∧ 
  ref1_rot.C x28 13 h20 fun x31 h21 =>
  sm .u32 l23 x29 h21 ∧ 
  ref1_rot.C x29 22 h21 fun x32 h22 =>
  ixa (Pl.mk b5 0) 8 0 1 fun l24 =>
  ld .u32 l24 h22 fun x33 =>
  ixa (Pl.mk b5 0) 8 1 1 fun l25 =>
  ld .u32 l25 h22 fun x34 =>
  ixa (Pl.mk b5 0) 8 0 1 fun l26 =>
  ld .u32 l26 h22 fun x35 =>
  ixa (Pl.mk b5 0) 8 2 1 fun l27 =>
  ld .u32 l27 h22 fun x36 =>
  ixa (Pl.mk b5 0) 8 1 1 fun l28 =>
  ld .u32 l28 h22 fun x37 =>
  ixa (Pl.mk b5 0) 8 2 1 fun l29 =>
  ld .u32 l29 h22 fun x38 =>
  ixa (Pl.mk b5 0) 8 0 1 fun l30 =>
  ld .u32 l30 h22 fun x39 =>
  ixa (Pl.mk b5 0) 8 1 1 fun l31 =>
  ld .u32 l31 h22 fun x40 =>
  ixa (Pl.mk b5 0) 8 2 1 fun l32 =>
  ld .u32 l32 h22 fun x41 =>
  ixa (Pl.mk b5 0) 8 3 1 fun l33 =>
  ld .u32 l33 h22 fun x42 =>
  ixa (Pl.mk b5 0) 8 4 1 fun l34 =>
  ld .u32 l34 h22 fun x43 =>
  ixa (Pl.mk b5 0) 8 5 1 fun l35 =>
  ld .u32 l35 h22 fun x44 =>
  ixa (Pl.mk b5 0) 8 6 1 fun l36 =>
  ld .u32 l36 h22 fun x45 =>
  st (.ar 8 .u32) (Pl.mk b5 0) (((((((((Vector.replicate 8 (0 : UInt32)).setIfInBounds 0 (((((x20 + ((x17 ^^^ x18) ^^^ x19)) + ((x21 &&& x22) ^^^ ((~~~x23) &&& x24))) + x25) + x26) + (((x30 ^^^ x31) ^^^ x32) + (((x33 &&& x34) ^^^ (x35 &&& x36)) ^^^ (x37 &&& x38))))).setIfInBounds 1 x39).setIfInBounds 2 x40).setIfInBounds 3 x41).setIfInBounds 4 (x42 + ((((x20 + ((x17 ^^^ x18) ^^^ x19)) + ((x21 &&& x22) ^^^ ((~~~x23) &&& x24))) + x25) + x26))).setIfInBounds 5 x43).setIfInBounds 6 x44).setIfInBounds 7 x45) h22 fun h23 =>
  next3 (w64 (y3.1 + 1), ()) h23)
  else lp (.pr .i .un) (fun y4 h24 next4 =>
  if (decide (y4.1 < 8)) = true then (ixa (Pl.mk b1 0) 8 y4.1 1 fun l37 =>
  ld .u32 l37 h24 fun x46 =>
  ixa (Pl.mk b5 0) 8 y4.1 1 fun l38 =>
  ld .u32 l38 h24 fun x47 =>
  ixa (Pl.mk b1 0) 8 y4.1 1 fun l39 =>
  st .u32 l39 (x46 + x47) h24 fun h25 =>
  next4 (w64 (y4.1 + 1), ()) h25)
  else ld (.ar 8 .u32) (Pl.mk b1 0) h24 fun x48 =>
  st (.ar 8 .u32) (Pl.mk b2 0) x48 h24 fun h26 =>
  ld (.ar 8 .u32) (Pl.mk b2 0) h26 fun x49 =>
  K x49 h26) (0, ()) h16) (0, ()) h15) (16, ()) h6) (0, ()) h5
theorem ref1_block256.e (a0_h : Kd.Ty (Kd.ar 8 .u32)) (a1_s : ByteArray) (h : Heap) (K : Kd.Ty (Kd.ar 8 .u32) → Heap → Prop) : ref1_block256.m a0_h a1_s h K = fnC Try.prog tys [(18, [(7, .i)]), (34, [(8, .i)]), (62, [(12, .i)]), (94, [(17, .i)])] Try.f59 [⟨(.ar 8 .u32), a0_h⟩, ⟨.s, a1_s⟩] (.ar 8 .u32) h (K) := by kernel_rfl
theorem ref1_block256.c (a0_h : Kd.Ty (Kd.ar 8 .u32)) (a1_s : ByteArray) {h : Heap} {K : Kd.Ty (Kd.ar 8 .u32) → Heap → Prop} (hm : ref1_block256.m a0_h a1_s h K) : ref1_block256.C a0_h a1_s h K := fn_sound (an := [(18, [(7, .i)]), (34, [(8, .i)]), (62, [(12, .i)]), (94, [(17, .i)])]) tysOk tysPl follows (f := 59) (fn := Try.f59) (args := [⟨(.ar 8 .u32), a0_h⟩, ⟨.s, a1_s⟩]) (by kernel_rfl) (by kernel_rfl) ((ref1_block256.e a0_h a1_s h K) ▸ hm)
def ref1_Sha.m (a0_s : ByteArray) (h : Heap) (K : Kd.Ty (Kd.ar 32 .u8) → Heap → Prop) : Prop :=
  new 62 (.ar 32 .u8) (Vector.replicate 32 0) h fun b1 h1 =>
  new 112 (.ar 8 .u32) (Vector.replicate 8 0) h1 fun b2 h2 =>
  st (.ar 8 .u32) (Pl.mk b2 0) (((((((((Vector.replicate 8 (0 : UInt32)).setIfInBounds 0 1779033703).setIfInBounds 1 3144134277).setIfInBounds 2 1013904242).setIfInBounds 3 2773480762).setIfInBounds 4 1359893119).setIfInBounds 5 2600822924).setIfInBounds 6 528734635).setIfInBounds 7 1541459225) h2 fun h3 =>
  (64 : Int) ≠ 0 ∧
  lp (.pr .i .un) (fun y1 h4 next1 =>
  if (decide (y1.1 < (w64 ((w64 ((a0_s.size : Int).tdiv 64)) * 64)))) = true then (ld (.ar 8 .u32) (Pl.mk b2 0) h4 fun x1 =>
  sls a0_s y1.1 (w64 (y1.1 + 64)) fun s1 =>
  ref1_block256.C x1 s1 h4 fun x2 h5 =>
  st (.ar 8 .u32) (Pl.mk b2 0) x2 h5 fun h6 =>
  next1 (w64 (y1.1 + 64), ()) h6)
  else sls a0_s (w64 ((w64 ((a0_s.size : Int).tdiv 64)) * 64)) (a0_s.size : Int) fun s2 =>
  sadd s2 (⟨#[128]⟩ : ByteArray) fun s3 =>
  jn (.pr .s .un) (fun J1 =>
  (64 : Int) ≠ 0 ∧
  (64 : Int) ≠ 0 ∧
  (mk 5 .u8 1 ((w64 (120 - ((s3.size : Int).tmod 64))).tmod 64) ((w64 (120 - ((s3.size : Int).tmod 64))).tmod 64) h4 fun s4 h8 =>
  b2s s4 h8 fun s5 q1 =>
  sadd s3 s5 fun s6 =>
  ref1_Be.C (w64 ((a0_s.size : Int) * 8)) 8 h8 fun x3 h9 =>
  stq q1 h9 (
  sadd s6 x3 fun s7 =>
  J1 (s7, ()) h9)) ∧
  ref1_Be.C (w64 ((a0_s.size : Int) * 8)) 8 h4 fun x4 h10 =>
  mk 5 .u8 1 ((w64 (120 - ((s3.size : Int).tmod 64))).tmod 64) ((w64 (120 - ((s3.size : Int).tmod 64))).tmod 64) h10 fun s8 h11 =>
  b2s s8 h11 fun s9 q2 =>
  sadd s3 s9 fun s10 =>
  sadd s10 x4 fun s11 =>
  J1 (s11, ()) h11) fun y2 h7 =>
  lp (.pr .i .un) (fun y3 h12 next2 =>
  if (decide (y3.1 < (y2.1.size : Int))) = true then (ld (.ar 8 .u32) (Pl.mk b2 0) h12 fun x5 =>
  sls y2.1 y3.1 (w64 (y3.1 + 64)) fun s12 =>
  ref1_block256.C x5 s12 h12 fun x6 h13 =>
  st (.ar 8 .u32) (Pl.mk b2 0) x6 h13 fun h14 =>
  next2 (w64 (y3.1 + 64), ()) h14)
  else new 62 (.ar 32 .u8) (Vector.replicate 32 0) h12 fun b3 h15 =>
  lp (.pr .i .un) (fun y4 h16 next3 =>
  if (decide (y4.1 < 32)) = true then ((4 : Int) ≠ 0 ∧
  ixa (Pl.mk b2 0) 8 (w64 (y4.1.tdiv 4)) 1 fun l1 =>
  ld .u32 l1 h16 fun x7 =>
  (4 : Int) ≠ 0 ∧
  0 ≤ w64 (24 - (w64 (8 * (y4.1.tmod 4)))) ∧
  ixa (Pl.mk b3 0) 32 y4.1 1 fun l2 =>
  st .u8 l2 (u8I ((shU32 .shr x7 (w64 (24 - (w64 (8 * (y4.1.tmod 4)))))).toNat : Int)) h16 fun h17 =>
  next3 (w64 (y4.1 + 1), ()) h17)
  else ld (.ar 32 .u8) (Pl.mk b3 0) h16 fun x8 =>
  st (.ar 32 .u8) (Pl.mk b1 0) x8 h16 fun h18 =>
  ld (.ar 32 .u8) (Pl.mk b1 0) h18 fun x9 =>
  K x9 h18) (0, ()) h15) (0, ()) h7) (0, ()) h3
theorem ref1_Sha.e (a0_s : ByteArray) (h : Heap) (K : Kd.Ty (Kd.ar 32 .u8) → Heap → Prop) : ref1_Sha.m a0_s h K = fnC Try.prog tys [(18, [(5, .i)]), (32, [(6, .s)]), (42, [(7, .i)]), (62, [(9, .i)])] Try.f48 [⟨.s, a0_s⟩] (.ar 32 .u8) h (K) := by kernel_rfl
theorem ref1_Sha.c (a0_s : ByteArray) {h : Heap} {K : Kd.Ty (Kd.ar 32 .u8) → Heap → Prop} (hm : ref1_Sha.m a0_s h K) : ref1_Sha.C a0_s h K := fn_sound (an := [(18, [(5, .i)]), (32, [(6, .s)]), (42, [(7, .i)]), (62, [(9, .i)])]) tysOk tysPl follows (f := 48) (fn := Try.f48) (args := [⟨.s, a0_s⟩]) (by kernel_rfl) (by kernel_rfl) ((ref1_Sha.e a0_s h K) ▸ hm)
def ref1_Tag.m (a0_tag : Int) (a1_parts : Slc) (h : Heap) (K : Kd.Ty (Kd.ar 32 .u8) → Int → Heap → Prop) : Prop :=
  new 62 (.ar 32 .u8) (Vector.replicate 32 0) h fun b1 h1 =>
  jn (.pr .b .un) (fun J1 =>
  if (decide (a0_tag < 0)) = true then J1 (true, ()) h1
  else J1 (decide (a0_tag > 4), ()) h1) fun y1 h2 =>
  if y1.1 = true then (st (.ar 32 .u8) (Pl.mk b1 0) (Vector.replicate 32 (0 : UInt8)) h2 fun h3 =>
  ld (.ar 32 .u8) (Pl.mk b1 0) h3 fun x1 =>
  K x1 200 h3)
  else bs 5 .u8 [u8I a0_tag] h2 fun s1 h4 =>
  lp (.pr .i (.pr .sl (.pr .i .un))) (fun y2 h5 next1 =>
  if (decide (y2.2.2.1 < (a1_parts.len : Int))) = true then (ix a1_parts y2.2.2.1 1 fun l1 =>
  ld .s l1 h5 fun x2 =>
  if (decide ((x2.size : Int) > (w64 (65536 - y2.1)))) = true then (st (.ar 32 .u8) (Pl.mk b1 0) (Vector.replicate 32 (0 : UInt8)) h5 fun h6 =>
  ld (.ar 32 .u8) (Pl.mk b1 0) h6 fun x3 =>
  K x3 200 h6)
  else ix a1_parts y2.2.2.1 1 fun l2 =>
  ld .s l2 h5 fun x4 =>
  ix a1_parts y2.2.2.1 1 fun l3 =>
  ld .s l3 h5 fun x5 =>
  ref1_Be.C (x5.size : Int) 4 h5 fun x6 h7 =>
  ap 5 .u8 1 y2.2.1 x6.size (x6.data.toList.flatMap Kd.u8.cells) h7 fun s2 h8 =>
  ix a1_parts y2.2.2.1 1 fun l4 =>
  ld .s l4 h8 fun x7 =>
  ap 5 .u8 1 s2 x7.size (x7.data.toList.flatMap Kd.u8.cells) h8 fun s3 h9 =>
  next1 (w64 (y2.1 + (x4.size : Int)), s3, w64 (y2.2.2.1 + 1), ()) h9)
  else b2s y2.2.1 h5 fun s4 q1 =>
  ref1_Sha.C s4 h5 fun x8 h10 =>
  st (.ar 32 .u8) (Pl.mk b1 0) x8 h10 fun h11 =>
  ld (.ar 32 .u8) (Pl.mk b1 0) h11 fun x9 =>
  K x9 0 h11) (0, s1, 0, ()) h4
theorem ref1_Tag.e (a0_tag : Int) (a1_parts : Slc) (h : Heap) (K : Kd.Ty (Kd.ar 32 .u8) → Int → Heap → Prop) : ref1_Tag.m a0_tag a1_parts h K = fnC Try.prog tys [(4, [(14, .b)]), (26, [(6, .i), (7, .sl), (8, .i)])] Try.f34 [⟨.i, a0_tag⟩, ⟨.sl, a1_parts⟩] (.tp (.pr (.ar 32 .u8) (.pr .i .un))) h (fun x h => K x.1 x.2.1 h) := by kernel_rfl
theorem ref1_Tag.c (a0_tag : Int) (a1_parts : Slc) {h : Heap} {K : Kd.Ty (Kd.ar 32 .u8) → Int → Heap → Prop} (hm : ref1_Tag.m a0_tag a1_parts h K) : ref1_Tag.C a0_tag a1_parts h K := fn_sound (an := [(4, [(14, .b)]), (26, [(6, .i), (7, .sl), (8, .i)])]) tysOk tysPl follows (f := 34) (fn := Try.f34) (args := [⟨.i, a0_tag⟩, ⟨.sl, a1_parts⟩]) (by kernel_rfl) (by kernel_rfl) ((ref1_Tag.e a0_tag a1_parts h K) ▸ hm)
def ref7_seal.m (a0_prev : ByteArray) (a1_seq : Int) (a2_r : Kd.Ty (Kd.ag (.pr .i (.pr .s .un)))) (h : Heap) (K : ByteArray → Heap → Prop) : Prop :=
  new 34 (.ag (.pr .i (.pr .s .un))) a2_r h fun b1 h1 =>
  jn (.pr .l .un) (fun J1 =>
  ld .i ((Pl.mk b1 0).fld 0) h1 fun x1 =>
  ld .s ((Pl.mk b1 0).fld 1) h1 fun x2 =>
  (ref1_Be.C a1_seq 4 h1 fun x3 h3 =>
  sm .s ((Pl.mk b1 0).fld 1) x2 h3 ∧ sm .i ((Pl.mk b1 0).fld 0) x1 h3 ∧ 
  (ref1_Be.C x1 1 h3 fun x4 h4 =>
  sm .s ((Pl.mk b1 0).fld 1) x2 h4 ∧ 
  (bs 9 .s [a0_prev, x3, x4, x2] h4 fun s1 h5 =>
  (ref1_Tag.C 4 s1 h5 fun x5 x6 h6 =>
  new 62 (.ar 32 .u8) (Vector.replicate 32 0) h6 fun b2 h7 =>
  st (.ar 32 .u8) (Pl.mk b2 0) x5 h7 fun h8 =>
  J1 ((Pl.mk b2 0), ()) h8) ∧
  new 62 (.ar 32 .u8) (Vector.replicate 32 0) h5 fun b3 h9 =>
  ref1_Tag.C 4 s1 h9 fun x7 x8 h10 =>
  st (.ar 32 .u8) (Pl.mk b3 0) x7 h10 fun h11 =>
  J1 ((Pl.mk b3 0), ()) h11) ∧
  new 62 (.ar 32 .u8) (Vector.replicate 32 0) h4 fun b4 h12 =>
  sm .s ((Pl.mk b1 0).fld 1) x2 h12 ∧ 
  bs 9 .s [a0_prev, x3, x4, x2] h12 fun s2 h13 =>
  ref1_Tag.C 4 s2 h13 fun x9 x10 h14 =>
  st (.ar 32 .u8) (Pl.mk b4 0) x9 h14 fun h15 =>
  J1 ((Pl.mk b4 0), ()) h15) ∧
  new 62 (.ar 32 .u8) (Vector.replicate 32 0) h3 fun b5 h16 =>
  sm .s ((Pl.mk b1 0).fld 1) x2 h16 ∧ sm .i ((Pl.mk b1 0).fld 0) x1 h16 ∧ 
  ref1_Be.C x1 1 h16 fun x11 h17 =>
  sm .s ((Pl.mk b1 0).fld 1) x2 h17 ∧ 
  bs 9 .s [a0_prev, x3, x11, x2] h17 fun s3 h18 =>
  ref1_Tag.C 4 s3 h18 fun x12 x13 h19 =>
  st (.ar 32 .u8) (Pl.mk b5 0) x12 h19 fun h20 =>
  J1 ((Pl.mk b5 0), ()) h20) ∧
  new 62 (.ar 32 .u8) (Vector.replicate 32 0) h1 fun b6 h21 =>
  sm .s ((Pl.mk b1 0).fld 1) x2 h21 ∧ sm .i ((Pl.mk b1 0).fld 0) x1 h21 ∧ 
  ref1_Be.C a1_seq 4 h21 fun x14 h22 =>
  sm .s ((Pl.mk b1 0).fld 1) x2 h22 ∧ sm .i ((Pl.mk b1 0).fld 0) x1 h22 ∧ 
  ref1_Be.C x1 1 h22 fun x15 h23 =>
  sm .s ((Pl.mk b1 0).fld 1) x2 h23 ∧ 
  bs 9 .s [a0_prev, x14, x15, x2] h23 fun s4 h24 =>
  ref1_Tag.C 4 s4 h24 fun x16 x17 h25 =>
  st (.ar 32 .u8) (Pl.mk b6 0) x16 h25 fun h26 =>
  J1 ((Pl.mk b6 0), ()) h26) fun y1 h2 =>
  ld (.ar 32 .u8) y1.1 h2 fun x18 =>
  ref1_T.C x18 h2 fun x19 h27 =>
  K x19 h27
theorem ref7_seal.e (a0_prev : ByteArray) (a1_seq : Int) (a2_r : Kd.Ty (Kd.ag (.pr .i (.pr .s .un)))) (h : Heap) (K : ByteArray → Heap → Prop) : ref7_seal.m a0_prev a1_seq a2_r h K = fnC Try.prog tys [(4, [(7, .l)])] Try.f47 [⟨.s, a0_prev⟩, ⟨.i, a1_seq⟩, ⟨(.ag (.pr .i (.pr .s .un))), a2_r⟩] .s h (K) := by kernel_rfl
theorem ref7_seal.c (a0_prev : ByteArray) (a1_seq : Int) (a2_r : Kd.Ty (Kd.ag (.pr .i (.pr .s .un)))) {h : Heap} {K : ByteArray → Heap → Prop} (hm : ref7_seal.m a0_prev a1_seq a2_r h K) : ref7_seal.C a0_prev a1_seq a2_r h K := fn_sound (an := [(4, [(7, .l)])]) tysOk tysPl follows (f := 47) (fn := Try.f47) (args := [⟨.s, a0_prev⟩, ⟨.i, a1_seq⟩, ⟨(.ag (.pr .i (.pr .s .un))), a2_r⟩]) (by kernel_rfl) (by kernel_rfl) ((ref7_seal.e a0_prev a1_seq a2_r h K) ▸ hm)
def ref7_Seal.m (a0_prev : ByteArray) (a1_seq : Int) (a2_r : Kd.Ty (Kd.ag (.pr .i (.pr .s .un)))) (h : Heap) (K : ByteArray → Int → Heap → Prop) : Prop :=
  new 34 (.ag (.pr .i (.pr .s .un))) a2_r h fun b1 h1 =>
  jn (.pr .b .un) (fun J1 =>
  if (decide (a1_seq < 0)) = true then J1 (true, ()) h1
  else if (decide (a1_seq > 4294967295)) = true then J1 (true, ()) h1
  else ld .i ((Pl.mk b1 0).fld 0) h1 fun x1 =>
  if (decide (x1 < 0)) = true then J1 (true, ()) h1
  else ld .i ((Pl.mk b1 0).fld 0) h1 fun x2 =>
  if (decide (x2 > 255)) = true then J1 (true, ()) h1
  else ld .s ((Pl.mk b1 0).fld 1) h1 fun x3 =>
  J1 (decide ((x3.size : Int) > 1024), ()) h1) fun y1 h2 =>
  if y1.1 = true then K ⟨#[]⟩ 800 h2
  else ld .i ((Pl.mk b1 0).fld 0) h2 fun x4 =>
  ld .s ((Pl.mk b1 0).fld 1) h2 fun x5 =>
  ld .s ((Pl.mk b1 0).fld 1) h2 fun x6 =>
  ld (.ag (.pr .i (.pr .s .un))) (Pl.mk b1 0) h2 fun x7 =>
  ref1_Be.C a1_seq 4 h2 fun x8 h3 =>
  sm (.ag (.pr .i (.pr .s .un))) (Pl.mk b1 0) x7 h3 ∧ sm .s ((Pl.mk b1 0).fld 1) x6 h3 ∧ sm .s ((Pl.mk b1 0).fld 1) x5 h3 ∧ sm .i ((Pl.mk b1 0).fld 0) x4 h3 ∧ 
  sadd (⟨#[65, 74]⟩ : ByteArray) x8 fun s1 =>
  ref1_Be.C x4 1 h3 fun x9 h4 =>
  sm (.ag (.pr .i (.pr .s .un))) (Pl.mk b1 0) x7 h4 ∧ sm .s ((Pl.mk b1 0).fld 1) x6 h4 ∧ sm .s ((Pl.mk b1 0).fld 1) x5 h4 ∧ 
  sadd s1 x9 fun s2 =>
  ref1_Be.C (x5.size : Int) 2 h4 fun x10 h5 =>
  sm (.ag (.pr .i (.pr .s .un))) (Pl.mk b1 0) x7 h5 ∧ sm .s ((Pl.mk b1 0).fld 1) x6 h5 ∧ 
  sadd s2 x10 fun s3 =>
  sadd s3 x6 fun s4 =>
  ref7_seal.C a0_prev a1_seq x7 h5 fun x11 h6 =>
  sm .s ((Pl.mk b1 0).fld 1) x6 h6 ∧ 
  sadd s4 x11 fun s5 =>
  (64 : Int) ≠ 0 ∧
  (64 : Int) ≠ 0 ∧
  mk 5 .u8 1 ((w64 (64 - ((s5.size : Int).tmod 64))).tmod 64) ((w64 (64 - ((s5.size : Int).tmod 64))).tmod 64) h6 fun s6 h7 =>
  b2s s6 h7 fun s7 q1 =>
  sadd s5 s7 fun s8 =>
  K s8 0 h7
theorem ref7_Seal.e (a0_prev : ByteArray) (a1_seq : Int) (a2_r : Kd.Ty (Kd.ag (.pr .i (.pr .s .un)))) (h : Heap) (K : ByteArray → Int → Heap → Prop) : ref7_Seal.m a0_prev a1_seq a2_r h K = fnC Try.prog tys [(4, [(30, .b)])] Try.f32 [⟨.s, a0_prev⟩, ⟨.i, a1_seq⟩, ⟨(.ag (.pr .i (.pr .s .un))), a2_r⟩] (.tp (.pr .s (.pr .i .un))) h (fun x h => K x.1 x.2.1 h) := by kernel_rfl
theorem ref7_Seal.c (a0_prev : ByteArray) (a1_seq : Int) (a2_r : Kd.Ty (Kd.ag (.pr .i (.pr .s .un)))) {h : Heap} {K : ByteArray → Int → Heap → Prop} (hm : ref7_Seal.m a0_prev a1_seq a2_r h K) : ref7_Seal.C a0_prev a1_seq a2_r h K := fn_sound (an := [(4, [(30, .b)])]) tysOk tysPl follows (f := 32) (fn := Try.f32) (args := [⟨.s, a0_prev⟩, ⟨.i, a1_seq⟩, ⟨(.ag (.pr .i (.pr .s .un))), a2_r⟩]) (by kernel_rfl) (by kernel_rfl) ((ref7_Seal.e a0_prev a1_seq a2_r h K) ▸ hm)
def ref7_Disk_Read.m (a0_d : Option Pl) (a1_at : Int) (h : Heap) (K : ByteArray → Int → Heap → Prop) : Prop :=
  jn (.pr .b .un) (fun J1 =>
  if (decide (a1_at < 0)) = true then J1 (true, ()) h
  else nck a0_d fun l1 =>
  ld .sl (l1.fld 0) h fun x1 =>
  J1 (decide (a1_at ≥ (x1.len : Int)), ()) h) fun y1 h1 =>
  if y1.1 = true then K ⟨#[]⟩ 700 h1
  else nck a0_d fun l2 =>
  ld .sl (l2.fld 0) h1 fun x2 =>
  ix x2 a1_at 1 fun l3 =>
  ld .s l3 h1 fun x3 =>
  K x3 0 h1
theorem ref7_Disk_Read.e (a0_d : Option Pl) (a1_at : Int) (h : Heap) (K : ByteArray → Int → Heap → Prop) : ref7_Disk_Read.m a0_d a1_at h K = fnC Try.prog tys [(4, [(16, .b)])] Try.f30 [⟨.p, a0_d⟩, ⟨.i, a1_at⟩] (.tp (.pr .s (.pr .i .un))) h (fun x h => K x.1 x.2.1 h) := by kernel_rfl
theorem ref7_Disk_Read.c (a0_d : Option Pl) (a1_at : Int) {h : Heap} {K : ByteArray → Int → Heap → Prop} (hm : ref7_Disk_Read.m a0_d a1_at h K) : ref7_Disk_Read.C a0_d a1_at h K := fn_sound (an := [(4, [(16, .b)])]) tysOk tysPl follows (f := 30) (fn := Try.f30) (args := [⟨.p, a0_d⟩, ⟨.i, a1_at⟩]) (by kernel_rfl) (by kernel_rfl) ((ref7_Disk_Read.e a0_d a1_at h K) ▸ hm)
def ref7_Journal_bytes.m (a0_j : Option Pl) (a1_at : Int) (a2_many : Int) (h : Heap) (K : ByteArray → Bool → Heap → Prop) : Prop :=
  lp (.pr .s (.pr .i .un)) (fun y1 h1 next1 =>
  if (decide (y1.2.1 < a2_many)) = true then (nck a0_j fun l1 =>
  ld .p (l1.fld 0) h1 fun x1 =>
  ref7_Disk_Read.C x1 (w64 (a1_at + y1.2.1)) h1 fun x2 x3 h2 =>
  if (!(decide (x3 = (0 : Int)))) = true then K ⟨#[]⟩ false h2
  else sadd y1.1 x2 fun s1 =>
  next1 (s1, w64 (y1.2.1 + 1), ()) h2)
  else K y1.1 true h1) (⟨#[]⟩, 0, ()) h
theorem ref7_Journal_bytes.e (a0_j : Option Pl) (a1_at : Int) (a2_many : Int) (h : Heap) (K : ByteArray → Bool → Heap → Prop) : ref7_Journal_bytes.m a0_j a1_at a2_many h K = fnC Try.prog tys [(14, [(8, .s), (9, .i)])] Try.f76 [⟨.p, a0_j⟩, ⟨.i, a1_at⟩, ⟨.i, a2_many⟩] (.tp (.pr .s (.pr .b .un))) h (fun x h => K x.1 x.2.1 h) := by kernel_rfl
theorem ref7_Journal_bytes.c (a0_j : Option Pl) (a1_at : Int) (a2_many : Int) {h : Heap} {K : ByteArray → Bool → Heap → Prop} (hm : ref7_Journal_bytes.m a0_j a1_at a2_many h K) : ref7_Journal_bytes.C a0_j a1_at a2_many h K := fn_sound (an := [(14, [(8, .s), (9, .i)])]) tysOk tysPl follows (f := 76) (fn := Try.f76) (args := [⟨.p, a0_j⟩, ⟨.i, a1_at⟩, ⟨.i, a2_many⟩]) (by kernel_rfl) (by kernel_rfl) ((ref7_Journal_bytes.e a0_j a1_at a2_many h K) ▸ hm)
def ref7_Journal_next.m (a0_j : Option Pl) (h : Heap) (K : Kd.Ty (Kd.ag (.pr .i (.pr .s .un))) → Bool → Heap → Prop) : Prop :=
  new 34 (.ag (.pr .i (.pr .s .un))) (0, (⟨#[]⟩, ())) h fun b1 h1 =>
  nck a0_j fun l1 =>
  ld .i (l1.fld 1) h1 fun x1 =>
  ref7_Journal_bytes.C a0_j x1 1 h1 fun x2 x3 h2 =>
  jn (.pr .b .un) (fun J1 =>
  if (!x3) = true then J1 (true, ()) h2
  else sls x2 0 2 fun s1 =>
  J1 (!(decide (s1 = (⟨#[65, 74]⟩ : ByteArray))), ()) h2) fun y1 h3 =>
  if y1.1 = true then (st (.ag (.pr .i (.pr .s .un))) (Pl.mk b1 0) (0, (⟨#[]⟩, ())) h3 fun h4 =>
  ld (.ag (.pr .i (.pr .s .un))) (Pl.mk b1 0) h4 fun x4 =>
  K x4 false h4)
  else ixs x2 7 fun c1 =>
  0 ≤ (((8 : UInt64).toNat : Int) : Int) ∧
  ixs x2 8 fun c2 =>
  (64 : Int) ≠ 0 ∧
  nck a0_j fun l2 =>
  ld .i (l2.fld 1) h3 fun x5 =>
  ref7_Journal_bytes.C a0_j x5 (w64 ((w64 ((w64 ((w64 ((w64 (9 + (orI (shlI (c1.toNat : Int) ((8 : UInt64).toNat : Int)) (c2.toNat : Int)))) + 32)) + 64)) - 1)).tdiv 64)) h3 fun x6 x7 h5 =>
  jn (.pr .b .un) (fun J2 =>
  if (!x7) = true then J2 (true, ()) h5
  else J2 (decide ((orI (shlI (c1.toNat : Int) ((8 : UInt64).toNat : Int)) (c2.toNat : Int)) > 1024), ()) h5) fun y2 h6 =>
  if y2.1 = true then (st (.ag (.pr .i (.pr .s .un))) (Pl.mk b1 0) (0, (⟨#[]⟩, ())) h6 fun h7 =>
  ld (.ag (.pr .i (.pr .s .un))) (Pl.mk b1 0) h7 fun x8 =>
  K x8 false h7)
  else ixs x2 6 fun c3 =>
  sls x6 9 (w64 (9 + (orI (shlI (c1.toNat : Int) ((8 : UInt64).toNat : Int)) (c2.toNat : Int)))) fun s2 =>
  new 34 (.ag (.pr .i (.pr .s .un))) (0, (⟨#[]⟩, ())) h6 fun b2 h8 =>
  st (.ag (.pr .i (.pr .s .un))) (Pl.mk b2 0) ((c3.toNat : Int), (s2, ())) h8 fun h9 =>
  nck a0_j fun l3 =>
  ld .s (l3.fld 3) h9 fun x9 =>
  nck a0_j fun l4 =>
  ld .i (l4.fld 2) h9 fun x10 =>
  ld (.ag (.pr .i (.pr .s .un))) (Pl.mk b2 0) h9 fun x11 =>
  ref7_Seal.C x9 x10 x11 h9 fun x12 x13 h10 =>
  jn (.pr .b .un) (fun J3 =>
  if (!(decide (x13 = (0 : Int)))) = true then J3 (true, ()) h10
  else J3 (!(decide (x12 = x6)), ()) h10) fun y3 h11 =>
  if y3.1 = true then (st (.ag (.pr .i (.pr .s .un))) (Pl.mk b1 0) (0, (⟨#[]⟩, ())) h11 fun h12 =>
  ld (.ag (.pr .i (.pr .s .un))) (Pl.mk b1 0) h12 fun x14 =>
  K x14 false h12)
  else nck a0_j fun l5 =>
  ld .i (l5.fld 1) h11 fun x15 =>
  nck a0_j fun l6 =>
  st .i (l6.fld 1) (w64 (x15 + (w64 ((w64 ((w64 ((w64 ((w64 (9 + (orI (shlI (c1.toNat : Int) ((8 : UInt64).toNat : Int)) (c2.toNat : Int)))) + 32)) + 64)) - 1)).tdiv 64)))) h11 fun h13 =>
  sls x6 (w64 (9 + (orI (shlI (c1.toNat : Int) ((8 : UInt64).toNat : Int)) (c2.toNat : Int)))) (w64 (41 + (orI (shlI (c1.toNat : Int) ((8 : UInt64).toNat : Int)) (c2.toNat : Int)))) fun s3 =>
  nck a0_j fun l7 =>
  st .s (l7.fld 3) s3 h13 fun h14 =>
  nck a0_j fun l8 =>
  ld .i (l8.fld 2) h14 fun x16 =>
  nck a0_j fun l9 =>
  st .i (l9.fld 2) (w64 (x16 + 1)) h14 fun h15 =>
  ld (.ag (.pr .i (.pr .s .un))) (Pl.mk b2 0) h15 fun x17 =>
  st (.ag (.pr .i (.pr .s .un))) (Pl.mk b1 0) x17 h15 fun h16 =>
  ld (.ag (.pr .i (.pr .s .un))) (Pl.mk b1 0) h16 fun x18 =>
  K x18 true h16
theorem ref7_Journal_next.e (a0_j : Option Pl) (h : Heap) (K : Kd.Ty (Kd.ag (.pr .i (.pr .s .un))) → Bool → Heap → Prop) : ref7_Journal_next.m a0_j h K = fnC Try.prog tys [(8, [(28, .b)]), (28, [(59, .b)]), (44, [(88, .b)])] Try.f57 [⟨.p, a0_j⟩] (.tp (.pr (.ag (.pr .i (.pr .s .un))) (.pr .b .un))) h (fun x h => K x.1 x.2.1 h) := by kernel_rfl
theorem ref7_Journal_next.c (a0_j : Option Pl) {h : Heap} {K : Kd.Ty (Kd.ag (.pr .i (.pr .s .un))) → Bool → Heap → Prop} (hm : ref7_Journal_next.m a0_j h K) : ref7_Journal_next.C a0_j h K := fn_sound (an := [(8, [(28, .b)]), (28, [(59, .b)]), (44, [(88, .b)])]) tysOk tysPl follows (f := 57) (fn := Try.f57) (args := [⟨.p, a0_j⟩]) (by kernel_rfl) (by kernel_rfl) ((ref7_Journal_next.e a0_j h K) ▸ hm)
def ref7_Disk_Sync.m (a0_d : Option Pl) (h : Heap) (K : Heap → Prop) : Prop :=
  lp (.pr .i .un) (fun y1 h1 next1 =>
  nck a0_d fun l1 =>
  ld .sl (l1.fld 0) h1 fun x1 =>
  if (decide (y1.1 < (x1.len : Int))) = true then (nck a0_d fun l2 =>
  ld .sl (l2.fld 1) h1 fun x2 =>
  nck a0_d fun l3 =>
  ld .sl (l3.fld 0) h1 fun x3 =>
  ix x3 y1.1 1 fun l4 =>
  ld .s l4 h1 fun x4 =>
  ix x2 y1.1 1 fun l5 =>
  st .s l5 x4 h1 fun h2 =>
  nck a0_d fun l6 =>
  ld .sl (l6.fld 2) h2 fun x5 =>
  ix x5 y1.1 1 fun l7 =>
  st .b l7 false h2 fun h3 =>
  next1 (w64 (y1.1 + 1), ()) h3)
  else K h1) (0, ()) h
theorem ref7_Disk_Sync.e (a0_d : Option Pl) (h : Heap) (K : Heap → Prop) : ref7_Disk_Sync.m a0_d h K = fnC Try.prog tys [(6, [(2, .i)])] Try.f22 [⟨.p, a0_d⟩] .un h (fun _ h => K h) := by kernel_rfl
theorem ref7_Disk_Sync.c (a0_d : Option Pl) {h : Heap} {K : Heap → Prop} (hm : ref7_Disk_Sync.m a0_d h K) : ref7_Disk_Sync.C a0_d h K := fn_sound (an := [(6, [(2, .i)])]) tysOk tysPl follows (f := 22) (fn := Try.f22) (args := [⟨.p, a0_d⟩]) (by kernel_rfl) (by kernel_rfl) ((ref7_Disk_Sync.e a0_d h K) ▸ hm)
def ref7_Disk_Write.m (a0_d : Option Pl) (a1_at : Int) (a2_s : ByteArray) (h : Heap) (K : Int → Heap → Prop) : Prop :=
  jn (.pr .b .un) (fun J1 =>
  if (decide (a1_at < 0)) = true then J1 (true, ()) h
  else nck a0_d fun l1 =>
  ld .sl (l1.fld 0) h fun x1 =>
  if (decide (a1_at ≥ (x1.len : Int))) = true then J1 (true, ()) h
  else J1 (!(decide ((a2_s.size : Int) = (64 : Int))), ()) h) fun y1 h1 =>
  if y1.1 = true then K 700 h1
  else nck a0_d fun l2 =>
  ld .sl (l2.fld 0) h1 fun x2 =>
  ix x2 a1_at 1 fun l3 =>
  st .s l3 a2_s h1 fun h2 =>
  nck a0_d fun l4 =>
  ld .sl (l4.fld 2) h2 fun x3 =>
  ix x3 a1_at 1 fun l5 =>
  st .b l5 true h2 fun h3 =>
  K 0 h3
theorem ref7_Disk_Write.e (a0_d : Option Pl) (a1_at : Int) (a2_s : ByteArray) (h : Heap) (K : Int → Heap → Prop) : ref7_Disk_Write.m a0_d a1_at a2_s h K = fnC Try.prog tys [(4, [(22, .b)])] Try.f25 [⟨.p, a0_d⟩, ⟨.i, a1_at⟩, ⟨.s, a2_s⟩] .i h (K) := by kernel_rfl
theorem ref7_Disk_Write.c (a0_d : Option Pl) (a1_at : Int) (a2_s : ByteArray) {h : Heap} {K : Int → Heap → Prop} (hm : ref7_Disk_Write.m a0_d a1_at a2_s h K) : ref7_Disk_Write.C a0_d a1_at a2_s h K := fn_sound (an := [(4, [(22, .b)])]) tysOk tysPl follows (f := 25) (fn := Try.f25) (args := [⟨.p, a0_d⟩, ⟨.i, a1_at⟩, ⟨.s, a2_s⟩]) (by kernel_rfl) (by kernel_rfl) ((ref7_Disk_Write.e a0_d a1_at a2_s h K) ▸ hm)
def ref7_Disk_Sectors.m (a0_d : Option Pl) (h : Heap) (K : Int → Heap → Prop) : Prop :=
  nck a0_d fun l1 =>
  ld .sl (l1.fld 0) h fun x1 =>
  K (x1.len : Int) h
theorem ref7_Disk_Sectors.e (a0_d : Option Pl) (h : Heap) (K : Int → Heap → Prop) : ref7_Disk_Sectors.m a0_d h K = fnC Try.prog tys [] Try.f46 [⟨.p, a0_d⟩] .i h (K) := by kernel_rfl
theorem ref7_Disk_Sectors.c (a0_d : Option Pl) {h : Heap} {K : Int → Heap → Prop} (hm : ref7_Disk_Sectors.m a0_d h K) : ref7_Disk_Sectors.C a0_d h K := fn_sound (an := []) tysOk tysPl follows (f := 46) (fn := Try.f46) (args := [⟨.p, a0_d⟩]) (by kernel_rfl) (by kernel_rfl) ((ref7_Disk_Sectors.e a0_d h K) ▸ hm)
def ref7_Journal_clear.m (a0_j : Option Pl) (h : Heap) (K : Heap → Prop) : Prop :=
  mk 5 .u8 1 64 64 h fun s1 h1 =>
  b2s s1 h1 fun s2 q1 =>
  nck a0_j fun l1 =>
  ld .i (l1.fld 1) h1 fun x1 =>
  lp (.pr .i .un) (fun y1 h2 next1 =>
  nck a0_j fun l2 =>
  ld .p (l2.fld 0) h2 fun x2 =>
  ref7_Disk_Sectors.C x2 h2 fun x3 h3 =>
  if (decide (y1.1 < x3)) = true then (jn .un (fun J1 =>
  nck a0_j fun l3 =>
  ld .p (l3.fld 0) h3 fun x4 =>
  ref7_Disk_Read.C x4 y1.1 h3 fun x5 x6 h5 =>
  jn .un (fun J2 =>
  if (!(decide (x5 = s2))) = true then (nck a0_j fun l4 =>
  ld .p (l4.fld 0) h5 fun x7 =>
  ref7_Disk_Write.C x7 y1.1 s2 h5 fun x8 h7 =>
  J2 (()) h7)
  else J2 (()) h5) fun y3 h6 =>
  J1 (()) h6) fun y2 h4 =>
  next1 (w64 (y1.1 + 1), ()) h4)
  else nck a0_j fun l5 =>
  ld .p (l5.fld 0) h3 fun x9 =>
  ref7_Disk_Sync.C x9 h3 fun h8 =>
  K h8) (x1, ()) h1
theorem ref7_Journal_clear.e (a0_j : Option Pl) (h : Heap) (K : Heap → Prop) : ref7_Journal_clear.m a0_j h K = fnC Try.prog tys [(7, []), (10, [(3, .i)]), (25, [])] Try.f58 [⟨.p, a0_j⟩] .un h (fun _ h => K h) := by kernel_rfl
theorem ref7_Journal_clear.c (a0_j : Option Pl) {h : Heap} {K : Heap → Prop} (hm : ref7_Journal_clear.m a0_j h K) : ref7_Journal_clear.C a0_j h K := fn_sound (an := [(7, []), (10, [(3, .i)]), (25, [])]) tysOk tysPl follows (f := 58) (fn := Try.f58) (args := [⟨.p, a0_j⟩]) (by kernel_rfl) (by kernel_rfl) ((ref7_Journal_clear.e a0_j h K) ▸ hm)
def ref7_OpenJournal.m (a0_d : Option Pl) (h : Heap) (K : Option Pl → Slc → Heap → Prop) : Prop :=
  mk 5 .u8 1 32 32 h fun s1 h1 =>
  b2s s1 h1 fun s2 q1 =>
  new 95 (.ag (.pr .p (.pr .i (.pr .i (.pr .s .un))))) (a0_d, (0, (0, (s2, ())))) h1 fun b1 h2 =>
  lp (.pr .sl .un) (fun y1 h3 next1 =>
  ref7_Journal_next.C (some (Pl.mk b1 0)) h3 fun x1 x2 h4 =>
  new 34 (.ag (.pr .i (.pr .s .un))) (0, (⟨#[]⟩, ())) h4 fun b2 h5 =>
  st (.ag (.pr .i (.pr .s .un))) (Pl.mk b2 0) x1 h5 fun h6 =>
  if (!x2) = true then (ref7_Journal_clear.C (some (Pl.mk b1 0)) h6 fun h7 =>
  K (some (Pl.mk b1 0)) y1.1 h7)
  else ld (.ag (.pr .i (.pr .s .un))) (Pl.mk b2 0) h6 fun x3 =>
  bs 34 (.ag (.pr .i (.pr .s .un))) [x3] h6 fun s3 h8 =>
  slCells s3 (s3.len * 2) h8 fun cs1 =>
  ap 34 (.ag (.pr .i (.pr .s .un))) 24 y1.1 s3.len cs1 h8 fun s4 h9 =>
  next1 (s4, ()) h9) (⟨none, 0, 0⟩, ()) h2
theorem ref7_OpenJournal.e (a0_d : Option Pl) (h : Heap) (K : Option Pl → Slc → Heap → Prop) : ref7_OpenJournal.m a0_d h K = fnC Try.prog tys [(14, [(5, .sl)])] Try.f45 [⟨.p, a0_d⟩] (.tp (.pr .p (.pr .sl .un))) h (fun x h => K x.1 x.2.1 h) := by kernel_rfl
theorem ref7_OpenJournal.c (a0_d : Option Pl) {h : Heap} {K : Option Pl → Slc → Heap → Prop} (hm : ref7_OpenJournal.m a0_d h K) : ref7_OpenJournal.C a0_d h K := fn_sound (an := [(14, [(5, .sl)])]) tysOk tysPl follows (f := 45) (fn := Try.f45) (args := [⟨.p, a0_d⟩]) (by kernel_rfl) (by kernel_rfl) ((ref7_OpenJournal.e a0_d h K) ▸ hm)
def law8_opened.m (a0_d : Option Pl) (a1_r : Option Pl) (h : Heap) (K : Option Pl → Option Pl → Bool → Heap → Prop) : Prop :=
  journal_Open.C a0_d h fun x1 x2 x3 h1 =>
  ref7_OpenJournal.C a1_r h1 fun x4 x5 h2 =>
  jn (.pr .p (.pr .p (.pr .b .un))) (fun J1 =>
  law0_Num.C x3 h2 fun x6 h4 =>
  if (decide (x6 = (0 : Int))) = true then (if (!(decide (x1 = none))) = true then (law0_SameRecords.C x2 x5 h4 fun x7 h5 =>
  J1 (x1, x4, x7, ()) h5)
  else J1 (x1, x4, false, ()) h4)
  else J1 (x1, x4, false, ()) h4) fun y1 h3 =>
  K y1.1 y1.2.1 y1.2.2.1 h3
theorem law8_opened.e (a0_d : Option Pl) (a1_r : Option Pl) (h : Heap) (K : Option Pl → Option Pl → Bool → Heap → Prop) : law8_opened.m a0_d a1_r h K = fnC Try.prog tys [(12, [(4, .p), (5, .p), (6, .b)])] Try.f20 [⟨.p, a0_d⟩, ⟨.p, a1_r⟩] (.tp (.pr .p (.pr .p (.pr .b .un)))) h (fun x h => K x.1 x.2.1 x.2.2.1 h) := by kernel_rfl
theorem law8_opened.c (a0_d : Option Pl) (a1_r : Option Pl) {h : Heap} {K : Option Pl → Option Pl → Bool → Heap → Prop} (hm : law8_opened.m a0_d a1_r h K) : law8_opened.C a0_d a1_r h K := fn_sound (an := [(12, [(4, .p), (5, .p), (6, .b)])]) tysOk tysPl follows (f := 20) (fn := Try.f20) (args := [⟨.p, a0_d⟩, ⟨.p, a1_r⟩]) (by kernel_rfl) (by kernel_rfl) ((law8_opened.e a0_d a1_r h K) ▸ hm)
def ref7_Journal_Append.m (a0_j : Option Pl) (a1_r : Kd.Ty (Kd.ag (.pr .i (.pr .s .un)))) (h : Heap) (K : Int → Heap → Prop) : Prop :=
  new 34 (.ag (.pr .i (.pr .s .un))) a1_r h fun b1 h1 =>
  nck a0_j fun l1 =>
  ld .s (l1.fld 3) h1 fun x1 =>
  nck a0_j fun l2 =>
  ld .i (l2.fld 2) h1 fun x2 =>
  ld (.ag (.pr .i (.pr .s .un))) (Pl.mk b1 0) h1 fun x3 =>
  ref7_Seal.C x1 x2 x3 h1 fun x4 x5 h2 =>
  if (!(decide (x5 = (0 : Int)))) = true then K x5 h2
  else (64 : Int) ≠ 0 ∧
  nck a0_j fun l3 =>
  ld .p (l3.fld 0) h2 fun x6 =>
  nck a0_j fun l4 =>
  ld .i (l4.fld 1) h2 fun x7 =>
  ref7_Disk_Sectors.C x6 h2 fun x8 h3 =>
  sm .i (l4.fld 1) x7 h3 ∧ 
  if (decide ((w64 ((x4.size : Int).tdiv 64)) > (w64 (x8 - x7)))) = true then K 801 h3
  else lp (.pr .i .un) (fun y1 h4 next1 =>
  if (decide (y1.1 < (w64 ((x4.size : Int).tdiv 64)))) = true then (nck a0_j fun l5 =>
  ld .p (l5.fld 0) h4 fun x9 =>
  nck a0_j fun l6 =>
  ld .i (l6.fld 1) h4 fun x10 =>
  sls x4 (w64 (y1.1 * 64)) (w64 ((w64 (y1.1 + 1)) * 64)) fun s1 =>
  ref7_Disk_Write.C x9 (w64 (x10 + y1.1)) s1 h4 fun x11 h5 =>
  next1 (w64 (y1.1 + 1), ()) h5)
  else nck a0_j fun l7 =>
  ld .i (l7.fld 1) h4 fun x12 =>
  nck a0_j fun l8 =>
  st .i (l8.fld 1) (w64 (x12 + (w64 ((x4.size : Int).tdiv 64)))) h4 fun h6 =>
  nck a0_j fun l9 =>
  ld .s (l9.fld 3) h6 fun x13 =>
  nck a0_j fun l10 =>
  ld .i (l10.fld 2) h6 fun x14 =>
  ld (.ag (.pr .i (.pr .s .un))) (Pl.mk b1 0) h6 fun x15 =>
  ref7_seal.C x13 x14 x15 h6 fun x16 h7 =>
  nck a0_j fun l11 =>
  st .s (l11.fld 3) x16 h7 fun h8 =>
  nck a0_j fun l12 =>
  ld .i (l12.fld 2) h8 fun x17 =>
  nck a0_j fun l13 =>
  st .i (l13.fld 2) (w64 (x17 + 1)) h8 fun h9 =>
  K 0 h9) (0, ()) h3
theorem ref7_Journal_Append.e (a0_j : Option Pl) (a1_r : Kd.Ty (Kd.ag (.pr .i (.pr .s .un)))) (h : Heap) (K : Int → Heap → Prop) : ref7_Journal_Append.m a0_j a1_r h K = fnC Try.prog tys [(34, [(8, .i)])] Try.f21 [⟨.p, a0_j⟩, ⟨(.ag (.pr .i (.pr .s .un))), a1_r⟩] .i h (K) := by kernel_rfl
theorem ref7_Journal_Append.c (a0_j : Option Pl) (a1_r : Kd.Ty (Kd.ag (.pr .i (.pr .s .un)))) {h : Heap} {K : Int → Heap → Prop} (hm : ref7_Journal_Append.m a0_j a1_r h K) : ref7_Journal_Append.C a0_j a1_r h K := fn_sound (an := [(34, [(8, .i)])]) tysOk tysPl follows (f := 21) (fn := Try.f21) (args := [⟨.p, a0_j⟩, ⟨(.ag (.pr .i (.pr .s .un))), a1_r⟩]) (by kernel_rfl) (by kernel_rfl) ((ref7_Journal_Append.e a0_j a1_r h K) ▸ hm)
def ref7_Disk_Crash.m (a0_d : Option Pl) (a1_keep : Int) (h : Heap) (K : Heap → Prop) : Prop :=
  lp (.pr .i (.pr .i .un)) (fun y1 h1 next1 =>
  nck a0_d fun l1 =>
  ld .sl (l1.fld 0) h1 fun x1 =>
  if (decide (y1.2.1 < (x1.len : Int))) = true then (jn (.pr .i .un) (fun J1 =>
  nck a0_d fun l2 =>
  ld .sl (l2.fld 2) h1 fun x2 =>
  ix x2 y1.2.1 1 fun l3 =>
  ld .b l3 h1 fun x3 =>
  if (!x3) = true then J1 (y1.1, ()) h1
  else jn (.pr .b .un) (fun J2 =>
  if (decide (y1.1 ≥ 62)) = true then J2 (true, ()) h1
  else 0 ≤ y1.1 ∧
  J2 (decide ((andI (shrI a1_keep y1.1) 1) = (0 : Int)), ()) h1) fun y3 h3 =>
  jn .un (fun J3 =>
  if y3.1 = true then (nck a0_d fun l4 =>
  ld .sl (l4.fld 0) h3 fun x4 =>
  nck a0_d fun l5 =>
  ld .sl (l5.fld 1) h3 fun x5 =>
  ix x5 y1.2.1 1 fun l6 =>
  ld .s l6 h3 fun x6 =>
  ix x4 y1.2.1 1 fun l7 =>
  st .s l7 x6 h3 fun h5 =>
  J3 (()) h5)
  else J3 (()) h3) fun y4 h4 =>
  J1 (w64 (y1.1 + 1), ()) h4) fun y2 h2 =>
  next1 (y2.1, w64 (y1.2.1 + 1), ()) h2)
  else ref7_Disk_Sync.C a0_d h1 fun h6 =>
  K h6) (0, 0, ()) h
theorem ref7_Disk_Crash.e (a0_d : Option Pl) (a1_keep : Int) (h : Heap) (K : Heap → Prop) : ref7_Disk_Crash.m a0_d a1_keep h K = fnC Try.prog tys [(7, [(4, .i)]), (10, [(4, .i), (5, .i)]), (20, [(31, .b)]), (25, [])] Try.f23 [⟨.p, a0_d⟩, ⟨.i, a1_keep⟩] .un h (fun _ h => K h) := by kernel_rfl
theorem ref7_Disk_Crash.c (a0_d : Option Pl) (a1_keep : Int) {h : Heap} {K : Heap → Prop} (hm : ref7_Disk_Crash.m a0_d a1_keep h K) : ref7_Disk_Crash.C a0_d a1_keep h K := fn_sound (an := [(7, [(4, .i)]), (10, [(4, .i), (5, .i)]), (20, [(31, .b)]), (25, [])]) tysOk tysPl follows (f := 23) (fn := Try.f23) (args := [⟨.p, a0_d⟩, ⟨.i, a1_keep⟩]) (by kernel_rfl) (by kernel_rfl) ((ref7_Disk_Crash.e a0_d a1_keep h K) ▸ hm)
def ref7_Journal_Used.m (a0_j : Option Pl) (h : Heap) (K : Int → Heap → Prop) : Prop :=
  nck a0_j fun l1 =>
  ld .i (l1.fld 1) h fun x1 =>
  K x1 h
theorem ref7_Journal_Used.e (a0_j : Option Pl) (h : Heap) (K : Int → Heap → Prop) : ref7_Journal_Used.m a0_j h K = fnC Try.prog tys [] Try.f26 [⟨.p, a0_j⟩] .i h (K) := by kernel_rfl
theorem ref7_Journal_Used.c (a0_j : Option Pl) {h : Heap} {K : Int → Heap → Prop} (hm : ref7_Journal_Used.m a0_j h K) : ref7_Journal_Used.C a0_j h K := fn_sound (an := []) tysOk tysPl follows (f := 26) (fn := Try.f26) (args := [⟨.p, a0_j⟩]) (by kernel_rfl) (by kernel_rfl) ((ref7_Journal_Used.e a0_j h K) ▸ hm)
def disk_Disk_Dirty.m (a0_d : Option Pl) (h : Heap) (K : Int → Heap → Prop) : Prop :=
  if (decide (a0_d = none)) = true then K 0 h
  else nck a0_d fun l1 =>
  ld .m (l1.fld 1) h fun x1 =>
  mlen x1 h fun n1 q1 =>
  K n1 h
theorem disk_Disk_Dirty.e (a0_d : Option Pl) (h : Heap) (K : Int → Heap → Prop) : disk_Disk_Dirty.m a0_d h K = fnC Try.prog tys [] Try.f27 [⟨.p, a0_d⟩] .i h (K) := by kernel_rfl
theorem disk_Disk_Dirty.c (a0_d : Option Pl) {h : Heap} {K : Int → Heap → Prop} (hm : disk_Disk_Dirty.m a0_d h K) : disk_Disk_Dirty.C a0_d h K := fn_sound (an := []) tysOk tysPl follows (f := 27) (fn := Try.f27) (args := [⟨.p, a0_d⟩]) (by kernel_rfl) (by kernel_rfl) ((disk_Disk_Dirty.e a0_d h K) ▸ hm)
def ref7_Disk_Dirty.m (a0_d : Option Pl) (h : Heap) (K : Int → Heap → Prop) : Prop :=
  lp (.pr .i (.pr .i .un)) (fun y1 h1 next1 =>
  nck a0_d fun l1 =>
  ld .sl (l1.fld 2) h1 fun x1 =>
  if (decide (y1.2.1 < (x1.len : Int))) = true then (jn (.pr .i .un) (fun J1 =>
  nck a0_d fun l2 =>
  ld .sl (l2.fld 2) h1 fun x2 =>
  ix x2 y1.2.1 1 fun l3 =>
  ld .b l3 h1 fun x3 =>
  jn (.pr .i .un) (fun J2 =>
  if x3 = true then J2 (w64 (y1.1 + 1), ()) h1
  else J2 (y1.1, ()) h1) fun y3 h3 =>
  J1 (y3.1, ()) h3) fun y2 h2 =>
  next1 (y2.1, w64 (y1.2.1 + 1), ()) h2)
  else K y1.1 h1) (0, 0, ()) h
theorem ref7_Disk_Dirty.e (a0_d : Option Pl) (h : Heap) (K : Int → Heap → Prop) : ref7_Disk_Dirty.m a0_d h K = fnC Try.prog tys [(7, [(3, .i)]), (14, [(3, .i), (4, .i)]), (25, [(3, .i)])] Try.f28 [⟨.p, a0_d⟩] .i h (K) := by kernel_rfl
theorem ref7_Disk_Dirty.c (a0_d : Option Pl) {h : Heap} {K : Int → Heap → Prop} (hm : ref7_Disk_Dirty.m a0_d h K) : ref7_Disk_Dirty.C a0_d h K := fn_sound (an := [(7, [(3, .i)]), (14, [(3, .i), (4, .i)]), (25, [(3, .i)])]) tysOk tysPl follows (f := 28) (fn := Try.f28) (args := [⟨.p, a0_d⟩]) (by kernel_rfl) (by kernel_rfl) ((ref7_Disk_Dirty.e a0_d h K) ▸ hm)
def law8_JournalActs.m (a0_sectors : Int) (a1_acts : Slc) (h : Heap) (K : Bool → Heap → Prop) : Prop :=
  disk_New.C a0_sectors h fun x1 x2 h1 =>
  ref7_NewDisk.C a0_sectors h1 fun x3 x4 h2 =>
  jn (.pr .b .un) (fun J1 =>
  law0_Num.C x2 h2 fun x5 h4 =>
  if (!(decide (x5 = (0 : Int)))) = true then J1 (true, ()) h4
  else J1 (!(decide (x4 = (0 : Int))), ()) h4) fun y1 h3 =>
  if y1.1 = true then (jn (.pr .b .un) (fun J2 =>
  law0_Num.C x2 h3 fun x6 h6 =>
  if (decide (x6 = x4)) = true then (law8_awake.C h6 fun x7 h7 =>
  J2 (x7, ()) h7)
  else J2 (false, ()) h6) fun y2 h5 =>
  K y2.1 h5)
  else law8_opened.C x1 x3 h3 fun x8 x9 x10 h8 =>
  lp (.pr .b (.pr .p (.pr .p (.pr .i .un)))) (fun y3 h9 next1 =>
  jn (.pr .b .un) (fun J3 =>
  if (decide (y3.2.2.2.1 < (a1_acts.len : Int))) = true then (if (decide (y3.2.2.2.1 < 50)) = true then J3 (y3.1, ()) h9
  else J3 (false, ()) h9)
  else J3 (false, ()) h9) fun y4 h10 =>
  if y4.1 = true then (jn (.pr .b (.pr .p (.pr .p .un))) (fun J4 =>
  ix a1_acts y3.2.2.2.1 6 fun l1 =>
  ld (.ag (.pr .i (.pr (.ag (.pr .i (.pr .s .un))) (.pr .i (.pr .i (.pr .s .un)))))) l1 h10 fun x11 =>
  new 51 (.ag (.pr .i (.pr (.ag (.pr .i (.pr .s .un))) (.pr .i (.pr .i (.pr .s .un)))))) (0, ((0, (⟨#[]⟩, ())), (0, (0, (⟨#[]⟩, ()))))) h10 fun b1 h12 =>
  st (.ag (.pr .i (.pr (.ag (.pr .i (.pr .s .un))) (.pr .i (.pr .i (.pr .s .un)))))) (Pl.mk b1 0) x11 h12 fun h13 =>
  jn (.pr .b (.pr .p (.pr .p .un))) (fun J5 =>
  ld .i ((Pl.mk b1 0).fld 0) h13 fun x12 =>
  jn (.pr .b (.pr .p (.pr .p .un))) (fun J6 =>
  if (decide (x12 < 6)) = true then (ld (.ag (.pr .i (.pr .s .un))) ((Pl.mk b1 0).fld 1) h13 fun x13 =>
  journal_Journal_Append.C y3.2.1 x13 h13 fun x14 h16 =>
  ld (.ag (.pr .i (.pr .s .un))) ((Pl.mk b1 0).fld 1) h16 fun x15 =>
  law0_Num.C x14 h16 fun x16 h17 =>
  sm (.ag (.pr .i (.pr .s .un))) ((Pl.mk b1 0).fld 1) x15 h17 ∧ 
  ref7_Journal_Append.C y3.2.2.1 x15 h17 fun x17 h18 =>
  J6 (decide (x16 = x17), y3.2.1, y3.2.2.1, ()) h18)
  else ld .i ((Pl.mk b1 0).fld 0) h13 fun x18 =>
  jn (.pr .b (.pr .p (.pr .p .un))) (fun J7 =>
  if (decide (x18 < 8)) = true then (journal_Journal_Sync.C y3.2.1 h13 fun x19 h20 =>
  ref7_Disk_Sync.C x3 h20 fun h21 =>
  law0_Num.C x19 h21 fun x20 h22 =>
  J7 (decide (x20 = (0 : Int)), y3.2.1, y3.2.2.1, ()) h22)
  else ld .i ((Pl.mk b1 0).fld 0) h13 fun x21 =>
  jn .un (fun J8 =>
  if (decide (x21 = (8 : Int))) = true then (ld .i ((Pl.mk b1 0).fld 3) h13 fun x22 =>
  disk_Disk_Crash.C x1 x22 h13 fun x23 h24 =>
  ld .i ((Pl.mk b1 0).fld 3) h24 fun x24 =>
  ref7_Disk_Crash.C x3 x24 h24 fun h25 =>
  J8 (()) h25)
  else ld .i ((Pl.mk b1 0).fld 4) h13 fun x25 =>
  ld .s ((Pl.mk b1 0).fld 5) h13 fun x26 =>
  disk_Disk_Write.C x1 x25 x26 h13 fun x27 h26 =>
  ld .i ((Pl.mk b1 0).fld 4) h26 fun x28 =>
  ld .s ((Pl.mk b1 0).fld 5) h26 fun x29 =>
  ref7_Disk_Write.C x3 x28 x29 h26 fun x30 h27 =>
  J8 (()) h27) fun y9 h23 =>
  law8_opened.C x1 x3 h23 fun x31 x32 x33 h28 =>
  J7 (x33, x31, x32, ()) h28) fun y8 h19 =>
  J6 (y8.1, y8.2.1, y8.2.2.1, ()) h19) fun y7 h15 =>
  J5 (y7.1, y7.2.1, y7.2.2.1, ()) h15) fun y6 h14 =>
  jn (.pr .b .un) (fun J9 =>
  if (!y6.1) = true then J9 (true, ()) h14
  else journal_Journal_Used.C y6.2.1 h14 fun x34 h30 =>
  ref7_Journal_Used.C y6.2.2.1 h30 fun x35 h31 =>
  if (!(decide (x34 = x35))) = true then J9 (true, ()) h31
  else disk_Disk_Dirty.C x1 h31 fun x36 h32 =>
  ref7_Disk_Dirty.C x3 h32 fun x37 h33 =>
  J9 (!(decide (x36 = x37)), ()) h33) fun y10 h29 =>
  if y10.1 = true then K false h29
  else J4 (y6.1, y6.2.1, y6.2.2.1, ()) h29) fun y5 h11 =>
  next1 (y5.1, y5.2.1, y5.2.2.1, w64 (y3.2.2.2.1 + 1), ()) h11)
  else lp (.pr .i .un) (fun y11 h34 next2 =>
  if (decide (y11.1 < a0_sectors)) = true then (disk_Disk_Read.C x1 y11.1 h34 fun x38 x39 h35 =>
  ref7_Disk_Read.C x3 y11.1 h35 fun x40 x41 h36 =>
  if (!(decide (x38 = x40))) = true then K false h36
  else next2 (w64 (y11.1 + 1), ()) h36)
  else jn (.pr .b .un) (fun J10 =>
  if y3.1 = true then (law8_awake.C h34 fun x42 h38 =>
  J10 (x42, ()) h38)
  else J10 (false, ()) h34) fun y12 h37 =>
  K y12.1 h37) (0, ()) h10) (x10, x8, x9, 0, ()) h8
theorem law8_JournalActs.e (a0_sectors : Int) (a1_acts : Slc) (h : Heap) (K : Bool → Heap → Prop) : law8_JournalActs.m a0_sectors a1_acts h K = fnC Try.prog tys [(7, [(11, .b), (9, .p), (10, .p)]), (11, [(11, .b), (9, .p), (10, .p)]), (12, [(40, .b)]), (16, [(4, .b)]), (28, [(65, .b)]), (30, [(11, .b), (9, .p), (10, .p), (12, .i)]), (45, []), (81, [(11, .b), (9, .p), (10, .p)]), (93, [(11, .b), (9, .p), (10, .p)]), (104, [(146, .b)]), (118, [(19, .i)]), (140, [(4, .b)])] Try.f7 [⟨.i, a0_sectors⟩, ⟨.sl, a1_acts⟩] .b h (K) := by kernel_rfl
theorem law8_JournalActs.c (a0_sectors : Int) (a1_acts : Slc) {h : Heap} {K : Bool → Heap → Prop} (hm : law8_JournalActs.m a0_sectors a1_acts h K) : law8_JournalActs.C a0_sectors a1_acts h K := fn_sound (an := [(7, [(11, .b), (9, .p), (10, .p)]), (11, [(11, .b), (9, .p), (10, .p)]), (12, [(40, .b)]), (16, [(4, .b)]), (28, [(65, .b)]), (30, [(11, .b), (9, .p), (10, .p), (12, .i)]), (45, []), (81, [(11, .b), (9, .p), (10, .p)]), (93, [(11, .b), (9, .p), (10, .p)]), (104, [(146, .b)]), (118, [(19, .i)]), (140, [(4, .b)])]) tysOk tysPl follows (f := 7) (fn := Try.f7) (args := [⟨.i, a0_sectors⟩, ⟨.sl, a1_acts⟩]) (by kernel_rfl) (by kernel_rfl) ((law8_JournalActs.e a0_sectors a1_acts h K) ▸ hm)
def journal_Seal.m (a0_prev : Kd.Ty (Kd.ar 32 .u8)) (a1_seq : Int) (a2_r : Kd.Ty (Kd.ag (.pr .i (.pr .s .un)))) (h : Heap) (K : ByteArray → Int → Heap → Prop) : Prop :=
  new 62 (.ar 32 .u8) a0_prev h fun b1 h1 =>
  new 34 (.ag (.pr .i (.pr .s .un))) a2_r h1 fun b2 h2 =>
  ld (.ar 32 .u8) (Pl.mk b1 0) h2 fun x1 =>
  ld (.ag (.pr .i (.pr .s .un))) (Pl.mk b2 0) h2 fun x2 =>
  journal_sealed.C x1 a1_seq x2 h2 fun x3 x4 x5 h3 =>
  new 62 (.ar 32 .u8) (Vector.replicate 32 0) h3 fun b3 h4 =>
  st (.ar 32 .u8) (Pl.mk b3 0) x3 h4 fun h5 =>
  if (!x5) = true then K ⟨#[]⟩ 800 h5
  else K x4 0 h5
theorem journal_Seal.e (a0_prev : Kd.Ty (Kd.ar 32 .u8)) (a1_seq : Int) (a2_r : Kd.Ty (Kd.ag (.pr .i (.pr .s .un)))) (h : Heap) (K : ByteArray → Int → Heap → Prop) : journal_Seal.m a0_prev a1_seq a2_r h K = fnC Try.prog tys [] Try.f31 [⟨(.ar 32 .u8), a0_prev⟩, ⟨.i, a1_seq⟩, ⟨(.ag (.pr .i (.pr .s .un))), a2_r⟩] (.tp (.pr .s (.pr .i .un))) h (fun x h => K x.1 x.2.1 h) := by kernel_rfl
theorem journal_Seal.c (a0_prev : Kd.Ty (Kd.ar 32 .u8)) (a1_seq : Int) (a2_r : Kd.Ty (Kd.ag (.pr .i (.pr .s .un)))) {h : Heap} {K : ByteArray → Int → Heap → Prop} (hm : journal_Seal.m a0_prev a1_seq a2_r h K) : journal_Seal.C a0_prev a1_seq a2_r h K := fn_sound (an := []) tysOk tysPl follows (f := 31) (fn := Try.f31) (args := [⟨(.ar 32 .u8), a0_prev⟩, ⟨.i, a1_seq⟩, ⟨(.ag (.pr .i (.pr .s .un))), a2_r⟩]) (by kernel_rfl) (by kernel_rfl) ((journal_Seal.e a0_prev a1_seq a2_r h K) ▸ hm)
def law8_JournalSeals.m (a0_prev : Kd.Ty (Kd.ar 32 .u8)) (a1_seq : Int) (a2_r : Kd.Ty (Kd.ag (.pr .i (.pr .s .un)))) (h : Heap) (K : Bool → Heap → Prop) : Prop :=
  new 62 (.ar 32 .u8) a0_prev h fun b1 h1 =>
  new 34 (.ag (.pr .i (.pr .s .un))) a2_r h1 fun b2 h2 =>
  ld (.ar 32 .u8) (Pl.mk b1 0) h2 fun x1 =>
  ld (.ag (.pr .i (.pr .s .un))) (Pl.mk b2 0) h2 fun x2 =>
  journal_Seal.C x1 a1_seq x2 h2 fun x3 x4 h3 =>
  ld (.ar 32 .u8) (Pl.mk b1 0) h3 fun x5 =>
  ld (.ag (.pr .i (.pr .s .un))) (Pl.mk b2 0) h3 fun x6 =>
  ref1_T.C x5 h3 fun x7 h4 =>
  sm (.ag (.pr .i (.pr .s .un))) (Pl.mk b2 0) x6 h4 ∧ 
  ref7_Seal.C x7 a1_seq x6 h4 fun x8 x9 h5 =>
  jn (.pr .b .un) (fun J1 =>
  if (decide (x3 = x8)) = true then (law0_Num.C x4 h5 fun x10 h7 =>
  if (decide (x10 = x9)) = true then (law8_awake.C h7 fun x11 h8 =>
  J1 (x11, ()) h8)
  else J1 (false, ()) h7)
  else J1 (false, ()) h5) fun y1 h6 =>
  K y1.1 h6
theorem law8_JournalSeals.e (a0_prev : Kd.Ty (Kd.ar 32 .u8)) (a1_seq : Int) (a2_r : Kd.Ty (Kd.ag (.pr .i (.pr .s .un)))) (h : Heap) (K : Bool → Heap → Prop) : law8_JournalSeals.m a0_prev a1_seq a2_r h K = fnC Try.prog tys [(12, [(6, .b)])] Try.f8 [⟨(.ar 32 .u8), a0_prev⟩, ⟨.i, a1_seq⟩, ⟨(.ag (.pr .i (.pr .s .un))), a2_r⟩] .b h (K) := by kernel_rfl
theorem law8_JournalSeals.c (a0_prev : Kd.Ty (Kd.ar 32 .u8)) (a1_seq : Int) (a2_r : Kd.Ty (Kd.ag (.pr .i (.pr .s .un)))) {h : Heap} {K : Bool → Heap → Prop} (hm : law8_JournalSeals.m a0_prev a1_seq a2_r h K) : law8_JournalSeals.C a0_prev a1_seq a2_r h K := fn_sound (an := [(12, [(6, .b)])]) tysOk tysPl follows (f := 8) (fn := Try.f8) (args := [⟨(.ar 32 .u8), a0_prev⟩, ⟨.i, a1_seq⟩, ⟨(.ag (.pr .i (.pr .s .un))), a2_r⟩]) (by kernel_rfl) (by kernel_rfl) ((law8_JournalSeals.e a0_prev a1_seq a2_r h K) ▸ hm)
def law8_JournalBytes.m (a0_prev : Kd.Ty (Kd.ar 32 .u8)) (a1_seq : Int) (a2_kind : Int) (a3_data : ByteArray) (h : Heap) (K : Bool → Heap → Prop) : Prop :=
  new 62 (.ar 32 .u8) a0_prev h fun b1 h1 =>
  law8_awake.C h1 fun x1 h2 =>
  if (!x1) = true then K false h2
  else sls a3_data 0 (mn2 (a3_data.size : Int) 1024) fun s1 =>
  ld (.ar 32 .u8) (Pl.mk b1 0) h2 fun x2 =>
  journal_Seal.C x2 (andI a1_seq 4294967295) (andI a2_kind 255, (s1, ())) h2 fun x3 x4 h3 =>
  ld (.ar 32 .u8) (Pl.mk b1 0) h3 fun x5 =>
  ref1_T.C x5 h3 fun x6 h4 =>
  ref1_Be.C (andI a1_seq 4294967295) 4 h4 fun x7 h5 =>
  ref1_Be.C (andI a2_kind 255) 1 h5 fun x8 h6 =>
  bs 9 .s [x6, x7, x8, s1] h6 fun s2 h7 =>
  ref1_Tag.C 4 s2 h7 fun x9 x10 h8 =>
  new 62 (.ar 32 .u8) (Vector.replicate 32 0) h8 fun b2 h9 =>
  st (.ar 32 .u8) (Pl.mk b2 0) x9 h9 fun h10 =>
  ld (.ar 32 .u8) (Pl.mk b2 0) h10 fun x11 =>
  ref1_Be.C (andI a1_seq 4294967295) 4 h10 fun x12 h11 =>
  sm (.ar 32 .u8) (Pl.mk b2 0) x11 h11 ∧ 
  sadd (⟨#[65, 74]⟩ : ByteArray) x12 fun s3 =>
  ref1_Be.C (andI a2_kind 255) 1 h11 fun x13 h12 =>
  sm (.ar 32 .u8) (Pl.mk b2 0) x11 h12 ∧ 
  sadd s3 x13 fun s4 =>
  ref1_Be.C (s1.size : Int) 2 h12 fun x14 h13 =>
  sm (.ar 32 .u8) (Pl.mk b2 0) x11 h13 ∧ 
  sadd s4 x14 fun s5 =>
  sadd s5 s1 fun s6 =>
  ref1_T.C x11 h13 fun x15 h14 =>
  sadd s6 x15 fun s7 =>
  jn (.pr .b .un) (fun J1 =>
  law0_Num.C x4 h14 fun x16 h16 =>
  if (!(decide (x16 = (0 : Int)))) = true then J1 (true, ()) h16
  else (64 : Int) ≠ 0 ∧
  if (!(decide (((x3.size : Int).tmod 64) = (0 : Int)))) = true then J1 (true, ()) h16
  else if (decide ((x3.size : Int) < (s7.size : Int))) = true then J1 (true, ()) h16
  else if (decide ((x3.size : Int) ≥ (w64 ((s7.size : Int) + 64)))) = true then J1 (true, ()) h16
  else sls x3 0 (s7.size : Int) fun s8 =>
  J1 (!(decide (s8 = s7)), ()) h16) fun y1 h15 =>
  if y1.1 = true then K false h15
  else lp (.pr .i .un) (fun y2 h17 next1 =>
  if (decide (y2.1 < (x3.size : Int))) = true then (ixs x3 y2.1 fun c1 =>
  Kd.u8 = Kd.u8 ∧
  if (!(decide ((c1.toNat : Int) = ((0 : UInt8).toNat : Int)))) = true then K false h17
  else next1 (w64 (y2.1 + 1), ()) h17)
  else K true h17) ((s7.size : Int), ()) h15
theorem law8_JournalBytes.e (a0_prev : Kd.Ty (Kd.ar 32 .u8)) (a1_seq : Int) (a2_kind : Int) (a3_data : ByteArray) (h : Heap) (K : Bool → Heap → Prop) : law8_JournalBytes.m a0_prev a1_seq a2_kind a3_data h K = fnC Try.prog tys [(32, [(96, .b)]), (46, [(17, .i)])] Try.f9 [⟨(.ar 32 .u8), a0_prev⟩, ⟨.i, a1_seq⟩, ⟨.i, a2_kind⟩, ⟨.s, a3_data⟩] .b h (K) := by kernel_rfl
theorem law8_JournalBytes.c (a0_prev : Kd.Ty (Kd.ar 32 .u8)) (a1_seq : Int) (a2_kind : Int) (a3_data : ByteArray) {h : Heap} {K : Bool → Heap → Prop} (hm : law8_JournalBytes.m a0_prev a1_seq a2_kind a3_data h K) : law8_JournalBytes.C a0_prev a1_seq a2_kind a3_data h K := fn_sound (an := [(32, [(96, .b)]), (46, [(17, .i)])]) tysOk tysPl follows (f := 9) (fn := Try.f9) (args := [⟨(.ar 32 .u8), a0_prev⟩, ⟨.i, a1_seq⟩, ⟨.i, a2_kind⟩, ⟨.s, a3_data⟩]) (by kernel_rfl) (by kernel_rfl) ((law8_JournalBytes.e a0_prev a1_seq a2_kind a3_data h K) ▸ hm)
end Go.Proofs.Try
