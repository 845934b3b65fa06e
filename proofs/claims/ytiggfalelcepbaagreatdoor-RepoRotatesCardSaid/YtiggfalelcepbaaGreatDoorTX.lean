/- Facts about the program: sizes, offsets, kinds. -/
import Derived.Test.YtiggfalelcepbaaGreatDoorK7
namespace Go.Proofs.YtiggfalelcepbaaGreatDoor
open Go
set_option maxRecDepth 100000
set_option maxHeartbeats 4000000
theorem fn_140 : qfn Tryz.prog 140 = true := by kernel_rfl
theorem mixed : Tryz.prog.follows .mixedOrders = true := by kernel_rfl
theorem fn_111 : qfn Tryz.prog 111 = true := by kernel_rfl
theorem fn_112 : qfn Tryz.prog 112 = true := by kernel_rfl
theorem fn_113 : qfn Tryz.prog 113 = true := by kernel_rfl
theorem fn_114 : qfn Tryz.prog 114 = true := by kernel_rfl
theorem fn_115 : qfn Tryz.prog 115 = true := by kernel_rfl
theorem fn_116 : qfn Tryz.prog 116 = true := by kernel_rfl
theorem qa_145 : qarr Tryz.prog 145 = some (8, 143, 1) := by kernel_rfl
theorem qa_146 : qarr Tryz.prog 146 = some (64, 143, 1) := by kernel_rfl
theorem qr_143 : qrow Tryz.prog 143 = some false := by kernel_rfl
theorem qr_145 : qrow Tryz.prog 145 = some true := by kernel_rfl
theorem qr_146 : qrow Tryz.prog 146 = some true := by kernel_rfl
theorem qr_5 : qrow Tryz.prog 5 = some false := by kernel_rfl
theorem qs_38 : qsl Tryz.prog 38 = some (5, 1, 1) := by kernel_rfl
theorem qu_143 : qund Tryz.prog 143 = some (.int .u32) := by kernel_rfl
theorem qu_5 : qund Tryz.prog 5 = some (.int .u8) := by kernel_rfl
theorem qz_145 : qzero Tryz.prog 145 = some (us (List.replicate 8 0)) := by kernel_rfl
theorem qz_146 : qzero Tryz.prog 146 = some (us (List.replicate 64 0)) := by kernel_rfl
theorem sz_143 : qsz Tryz.prog 143 = some 1 := by kernel_rfl
theorem sz_145 : qsz Tryz.prog 145 = some 8 := by kernel_rfl
theorem sz_146 : qsz Tryz.prog 146 = some 64 := by kernel_rfl
theorem fn_136 : qfn Tryz.prog 136 = true := by kernel_rfl
theorem qa_144 : qarr Tryz.prog 144 = some (8, 143, 1) := by kernel_rfl
theorem qr_144 : qrow Tryz.prog 144 = some true := by kernel_rfl
theorem qz_144 : qzero Tryz.prog 144 = some (us (List.replicate 8 0)) := by kernel_rfl
theorem sz_144 : qsz Tryz.prog 144 = some 8 := by kernel_rfl
theorem fn_90 : qfn Tryz.prog 90 = true := by kernel_rfl
theorem fn_91 : qfn Tryz.prog 91 = true := by kernel_rfl
theorem qa_23 : qarr Tryz.prog 23 = some (32, 5, 1) := by kernel_rfl
theorem qr_23 : qrow Tryz.prog 23 = some true := by kernel_rfl
theorem qu_151 : qund Tryz.prog 151 = some (.int .u64) := by kernel_rfl
theorem qu_152 : qund Tryz.prog 152 = some (.int .u64) := by kernel_rfl
theorem qu_3 : qund Tryz.prog 3 = some (.int .i64) := by kernel_rfl
theorem qu_38 : qund Tryz.prog 38 = some (.slice 5) := by kernel_rfl
theorem qz_23 : qzero Tryz.prog 23 = some (hc (List.replicate 32 0)) := by kernel_rfl
theorem qz_5 : qzero Tryz.prog 5 = some ([u8 0]) := by kernel_rfl
theorem sz_23 : qsz Tryz.prog 23 = some 32 := by kernel_rfl
theorem sz_5 : qsz Tryz.prog 5 = some 1 := by kernel_rfl
theorem fn_64 : qfn Tryz.prog 64 = true := by kernel_rfl
theorem fn_65 : qfn Tryz.prog 65 = true := by kernel_rfl
theorem qa_150 : qarr Tryz.prog 150 = some (128, 5, 1) := by kernel_rfl
theorem qz_150 : qzero Tryz.prog 150 = some (bv (List.replicate 128 0)) := by kernel_rfl
theorem fn_120 : qfn Tryz.prog 120 = true := by kernel_rfl
theorem fn_121 : qfn Tryz.prog 121 = true := by kernel_rfl
theorem fn_26 : qfn Tryz.prog 26 = true := by kernel_rfl
theorem fn_41 : qfn Tryz.prog 41 = true := by kernel_rfl
theorem fn_85 : qfn Tryz.prog 85 = true := by kernel_rfl
theorem fn_86 : qfn Tryz.prog 86 = true := by kernel_rfl
theorem fn_87 : qfn Tryz.prog 87 = true := by kernel_rfl
theorem fn_98 : qfn Tryz.prog 98 = true := by kernel_rfl
theorem fn_99 : qfn Tryz.prog 99 = true := by kernel_rfl
theorem fo_183_0 : qfld Tryz.prog 183 0 = some 0 := by kernel_rfl
theorem fo_183_1 : qfld Tryz.prog 183 1 = some 32 := by kernel_rfl
theorem qr_3 : qrow Tryz.prog 3 = some false := by kernel_rfl
theorem qs_27 : qsl Tryz.prog 27 = some (23, 32, 32) := by kernel_rfl
theorem qu_27 : qund Tryz.prog 27 = some (.slice 23) := by kernel_rfl
theorem fn_119 : qfn Tryz.prog 119 = true := by kernel_rfl
theorem fn_137 : qfn Tryz.prog 137 = true := by kernel_rfl
theorem qa_196 : qarr Tryz.prog 196 = some (36, 3, 1) := by kernel_rfl
theorem qr_196 : qrow Tryz.prog 196 = some true := by kernel_rfl
theorem qz_196 : qzero Tryz.prog 196 = some (ns (List.replicate 36 0)) := by kernel_rfl
theorem sz_196 : qsz Tryz.prog 196 = some 36 := by kernel_rfl
theorem sz_3 : qsz Tryz.prog 3 = some 1 := by kernel_rfl
theorem fn_117 : qfn Tryz.prog 117 = true := by kernel_rfl
theorem fn_118 : qfn Tryz.prog 118 = true := by kernel_rfl
theorem fn_141 : qfn Tryz.prog 141 = true := by kernel_rfl
theorem fn_162 : qfn Tryz.prog 162 = true := by kernel_rfl
theorem fn_40 : qfn Tryz.prog 40 = true := by kernel_rfl
theorem fn_67 : qfn Tryz.prog 67 = true := by kernel_rfl
theorem fn_69 : qfn Tryz.prog 69 = true := by kernel_rfl
theorem fn_88 : qfn Tryz.prog 88 = true := by kernel_rfl
theorem fn_89 : qfn Tryz.prog 89 = true := by kernel_rfl
theorem fn_97 : qfn Tryz.prog 97 = true := by kernel_rfl
theorem qu_9 : qund Tryz.prog 9 = some (.string) := by kernel_rfl
theorem fn_164 : qfn Tryz.prog 164 = true := by kernel_rfl
theorem fn_165 : qfn Tryz.prog 165 = true := by kernel_rfl
theorem fn_166 : qfn Tryz.prog 166 = true := by kernel_rfl
theorem fn_38 : qfn Tryz.prog 38 = true := by kernel_rfl
theorem fn_39 : qfn Tryz.prog 39 = true := by kernel_rfl
theorem fn_47 : qfn Tryz.prog 47 = true := by kernel_rfl
theorem fn_66 : qfn Tryz.prog 66 = true := by kernel_rfl
theorem fn_68 : qfn Tryz.prog 68 = true := by kernel_rfl
theorem fn_96 : qfn Tryz.prog 96 = true := by kernel_rfl
theorem fo_110_0 : qfld Tryz.prog 110 0 = some 0 := by kernel_rfl
theorem fo_110_1 : qfld Tryz.prog 110 1 = some 1 := by kernel_rfl
theorem fo_110_2 : qfld Tryz.prog 110 2 = some 2 := by kernel_rfl
theorem fo_116_0 : qfld Tryz.prog 116 0 = some 0 := by kernel_rfl
theorem fo_116_1 : qfld Tryz.prog 116 1 = some 32 := by kernel_rfl
theorem fo_116_2 : qfld Tryz.prog 116 2 = some 33 := by kernel_rfl
theorem fo_29_0 : qfld Tryz.prog 29 0 = some 0 := by kernel_rfl
theorem fo_29_1 : qfld Tryz.prog 29 1 = some 32 := by kernel_rfl
theorem fo_29_2 : qfld Tryz.prog 29 2 = some 33 := by kernel_rfl
theorem fo_29_3 : qfld Tryz.prog 29 3 = some 65 := by kernel_rfl
theorem qh_23 : qhash Tryz.prog 23 = true := by kernel_rfl
theorem qr_110 : qrow Tryz.prog 110 = some true := by kernel_rfl
theorem qr_27 : qrow Tryz.prog 27 = some false := by kernel_rfl
theorem qu_73 : qund Tryz.prog 73 = some (.pointer 116) := by kernel_rfl
theorem qz_110 : qzero Tryz.prog 110 = some ([nn 0, .slice none 0 0, .slice none 0 0]) := by kernel_rfl
theorem sz_110 : qsz Tryz.prog 110 = some 3 := by kernel_rfl
theorem sz_27 : qsz Tryz.prog 27 = some 1 := by kernel_rfl
theorem fn_109 : qfn Tryz.prog 109 = true := by kernel_rfl
theorem fn_110 : qfn Tryz.prog 110 = true := by kernel_rfl
theorem fn_123 : qfn Tryz.prog 123 = true := by kernel_rfl
theorem fn_51 : qfn Tryz.prog 51 = true := by kernel_rfl
theorem fn_52 : qfn Tryz.prog 52 = true := by kernel_rfl
theorem fn_53 : qfn Tryz.prog 53 = true := by kernel_rfl
theorem fn_55 : qfn Tryz.prog 55 = true := by kernel_rfl
theorem fn_59 : qfn Tryz.prog 59 = true := by kernel_rfl
theorem fn_60 : qfn Tryz.prog 60 = true := by kernel_rfl
theorem fn_63 : qfn Tryz.prog 63 = true := by kernel_rfl
theorem fn_73 : qfn Tryz.prog 73 = true := by kernel_rfl
theorem fo_123_0 : qfld Tryz.prog 123 0 = some 0 := by kernel_rfl
theorem fo_125_0 : qfld Tryz.prog 125 0 = some 0 := by kernel_rfl
theorem fo_32_0 : qfld Tryz.prog 32 0 = some 0 := by kernel_rfl
theorem fo_32_1 : qfld Tryz.prog 32 1 = some 1 := by kernel_rfl
theorem fo_35_0 : qfld Tryz.prog 35 0 = some 0 := by kernel_rfl
theorem fo_35_1 : qfld Tryz.prog 35 1 = some 1 := by kernel_rfl
theorem fo_35_2 : qfld Tryz.prog 35 2 = some 2 := by kernel_rfl
theorem fo_53_0 : qfld Tryz.prog 53 0 = some 0 := by kernel_rfl
theorem fo_53_1 : qfld Tryz.prog 53 1 = some 1 := by kernel_rfl
theorem fo_53_2 : qfld Tryz.prog 53 2 = some 2 := by kernel_rfl
theorem fo_53_3 : qfld Tryz.prog 53 3 = some 3 := by kernel_rfl
theorem fo_56_0 : qfld Tryz.prog 56 0 = some 0 := by kernel_rfl
theorem fo_56_1 : qfld Tryz.prog 56 1 = some 1 := by kernel_rfl
theorem fo_56_2 : qfld Tryz.prog 56 2 = some 2 := by kernel_rfl
theorem fo_82_0 : qfld Tryz.prog 82 0 = some 0 := by kernel_rfl
theorem fo_82_1 : qfld Tryz.prog 82 1 = some 1 := by kernel_rfl
theorem fo_82_2 : qfld Tryz.prog 82 2 = some 2 := by kernel_rfl
theorem fo_82_3 : qfld Tryz.prog 82 3 = some 3 := by kernel_rfl
theorem fo_82_4 : qfld Tryz.prog 82 4 = some 4 := by kernel_rfl
theorem fo_85_0 : qfld Tryz.prog 85 0 = some 0 := by kernel_rfl
theorem fo_85_1 : qfld Tryz.prog 85 1 = some 1 := by kernel_rfl
theorem qa_33 : qarr Tryz.prog 33 = some (4, 32, 2) := by kernel_rfl
theorem qr_32 : qrow Tryz.prog 32 = some true := by kernel_rfl
theorem qr_33 : qrow Tryz.prog 33 = some true := by kernel_rfl
theorem qr_36 : qrow Tryz.prog 36 = some false := by kernel_rfl
theorem qr_38 : qrow Tryz.prog 38 = some false := by kernel_rfl
theorem qr_54 : qrow Tryz.prog 54 = some false := by kernel_rfl
theorem qr_80 : qrow Tryz.prog 80 = some false := by kernel_rfl
theorem qr_85 : qrow Tryz.prog 85 = some true := by kernel_rfl
theorem qr_9 : qrow Tryz.prog 9 = some false := by kernel_rfl
theorem qs_178 : qsl Tryz.prog 178 = some (3, 1, 8) := by kernel_rfl
theorem qs_217 : qsl Tryz.prog 217 = some (38, 1, 24) := by kernel_rfl
theorem qs_54 : qsl Tryz.prog 54 = some (85, 2, 24) := by kernel_rfl
theorem qu_178 : qund Tryz.prog 178 = some (.slice 3) := by kernel_rfl
theorem qu_191 : qund Tryz.prog 191 = some (.pointer 123) := by kernel_rfl
theorem qu_217 : qund Tryz.prog 217 = some (.slice 38) := by kernel_rfl
theorem qu_36 : qund Tryz.prog 36 = some (.slice 128) := by kernel_rfl
theorem qu_54 : qund Tryz.prog 54 = some (.slice 85) := by kernel_rfl
theorem qu_80 : qund Tryz.prog 80 = some (.slice 133) := by kernel_rfl
theorem qz_32 : qzero Tryz.prog 32 = some ([.slice none 0 0, nn 0]) := by kernel_rfl
theorem qz_85 : qzero Tryz.prog 85 = some ([.string ByteArray.empty, nn 0]) := by kernel_rfl
theorem sz_32 : qsz Tryz.prog 32 = some 2 := by kernel_rfl
theorem sz_33 : qsz Tryz.prog 33 = some 8 := by kernel_rfl
theorem sz_38 : qsz Tryz.prog 38 = some 1 := by kernel_rfl
theorem sz_85 : qsz Tryz.prog 85 = some 2 := by kernel_rfl
theorem fn_101 : qfn Tryz.prog 101 = true := by kernel_rfl
theorem fn_102 : qfn Tryz.prog 102 = true := by kernel_rfl
theorem fn_103 : qfn Tryz.prog 103 = true := by kernel_rfl
theorem fn_122 : qfn Tryz.prog 122 = true := by kernel_rfl
theorem fn_138 : qfn Tryz.prog 138 = true := by kernel_rfl
theorem fn_142 : qfn Tryz.prog 142 = true := by kernel_rfl
theorem fn_156 : qfn Tryz.prog 156 = true := by kernel_rfl
theorem fn_157 : qfn Tryz.prog 157 = true := by kernel_rfl
theorem fn_158 : qfn Tryz.prog 158 = true := by kernel_rfl
theorem fn_163 : qfn Tryz.prog 163 = true := by kernel_rfl
theorem fn_171 : qfn Tryz.prog 171 = true := by kernel_rfl
theorem qa_226 : qarr Tryz.prog 226 = some (256, 4, 1) := by kernel_rfl
theorem qr_226 : qrow Tryz.prog 226 = some true := by kernel_rfl
theorem qr_4 : qrow Tryz.prog 4 = some false := by kernel_rfl
theorem qz_226 : qzero Tryz.prog 226 = some (bz (List.replicate 256 false)) := by kernel_rfl
theorem sz_226 : qsz Tryz.prog 226 = some 256 := by kernel_rfl
theorem sz_4 : qsz Tryz.prog 4 = some 1 := by kernel_rfl
theorem fn_100 : qfn Tryz.prog 100 = true := by kernel_rfl
theorem fn_48 : qfn Tryz.prog 48 = true := by kernel_rfl
theorem fn_49 : qfn Tryz.prog 49 = true := by kernel_rfl
theorem fn_50 : qfn Tryz.prog 50 = true := by kernel_rfl
theorem fn_57 : qfn Tryz.prog 57 = true := by kernel_rfl
theorem fn_58 : qfn Tryz.prog 58 = true := by kernel_rfl
theorem fn_61 : qfn Tryz.prog 61 = true := by kernel_rfl
theorem fn_62 : qfn Tryz.prog 62 = true := by kernel_rfl
theorem fn_71 : qfn Tryz.prog 71 = true := by kernel_rfl
theorem fn_72 : qfn Tryz.prog 72 = true := by kernel_rfl
theorem fn_83 : qfn Tryz.prog 83 = true := by kernel_rfl
theorem qr_35 : qrow Tryz.prog 35 = some true := by kernel_rfl
theorem qr_53 : qrow Tryz.prog 53 = some true := by kernel_rfl
theorem qr_56 : qrow Tryz.prog 56 = some true := by kernel_rfl
theorem qr_82 : qrow Tryz.prog 82 = some true := by kernel_rfl
theorem sz_35 : qsz Tryz.prog 35 = some 10 := by kernel_rfl
theorem sz_53 : qsz Tryz.prog 53 = some 35 := by kernel_rfl
theorem sz_56 : qsz Tryz.prog 56 = some 3 := by kernel_rfl
theorem sz_82 : qsz Tryz.prog 82 = some 5 := by kernel_rfl
theorem fn_29 : qfn Tryz.prog 29 = true := by kernel_rfl
theorem fn_46 : qfn Tryz.prog 46 = true := by kernel_rfl
theorem qr_41 : qrow Tryz.prog 41 = some true := by kernel_rfl
theorem qz_41 : qzero Tryz.prog 41 = some ([.slice none 0 0, .slice none 0 0]) := by kernel_rfl
theorem sz_41 : qsz Tryz.prog 41 = some 2 := by kernel_rfl
theorem fn_125 : qfn Tryz.prog 125 = true := by kernel_rfl
theorem fn_128 : qfn Tryz.prog 128 = true := by kernel_rfl
theorem fn_144 : qfn Tryz.prog 144 = true := by kernel_rfl
theorem fn_145 : qfn Tryz.prog 145 = true := by kernel_rfl
theorem fn_148 : qfn Tryz.prog 148 = true := by kernel_rfl
theorem fo_208_0 : qfld Tryz.prog 208 0 = some 0 := by kernel_rfl
theorem fo_208_1 : qfld Tryz.prog 208 1 = some 1 := by kernel_rfl
theorem fn_146 : qfn Tryz.prog 146 = true := by kernel_rfl
theorem fn_149 : qfn Tryz.prog 149 = true := by kernel_rfl
theorem fn_150 : qfn Tryz.prog 150 = true := by kernel_rfl
theorem fn_151 : qfn Tryz.prog 151 = true := by kernel_rfl
theorem fn_167 : qfn Tryz.prog 167 = true := by kernel_rfl
theorem fn_168 : qfn Tryz.prog 168 = true := by kernel_rfl
theorem fn_43 : qfn Tryz.prog 43 = true := by kernel_rfl
theorem fn_44 : qfn Tryz.prog 44 = true := by kernel_rfl
theorem fn_45 : qfn Tryz.prog 45 = true := by kernel_rfl
theorem fn_92 : qfn Tryz.prog 92 = true := by kernel_rfl
theorem fn_93 : qfn Tryz.prog 93 = true := by kernel_rfl
theorem fn_94 : qfn Tryz.prog 94 = true := by kernel_rfl
theorem fn_95 : qfn Tryz.prog 95 = true := by kernel_rfl

theorem fn_37 : qfn Tryz.prog 37 = true := by kernel_rfl
theorem fn_70 : qfn Tryz.prog 70 = true := by kernel_rfl
theorem fn_84 : qfn Tryz.prog 84 = true := by kernel_rfl
theorem fo_114_1 : qfld Tryz.prog 114 1 = some 32 := by kernel_rfl
theorem fo_41_0 : qfld Tryz.prog 41 0 = some 0 := by kernel_rfl
theorem fo_41_1 : qfld Tryz.prog 41 1 = some 1 := by kernel_rfl
theorem qr_114 : qrow Tryz.prog 114 = some true := by kernel_rfl
theorem qr_39 : qrow Tryz.prog 39 = some false := by kernel_rfl
theorem qs_37 : qsl Tryz.prog 37 = some (41, 2, 48) := by kernel_rfl
theorem qs_39 : qsl Tryz.prog 39 = some (114, 35, 88) := by kernel_rfl
theorem qu_37 : qund Tryz.prog 37 = some (.slice 41) := by kernel_rfl
theorem qu_39 : qund Tryz.prog 39 = some (.slice 114) := by kernel_rfl
theorem qz_114 : qzero Tryz.prog 114 = some (hc (List.replicate 32 0) ++ ([nn 0, .slice none 0 0, .slice none 0 0])) := by kernel_rfl
theorem sz_114 : qsz Tryz.prog 114 = some 35 := by kernel_rfl
theorem sz_39 : qsz Tryz.prog 39 = some 1 := by kernel_rfl
theorem fn_14 : qfn Tryz.prog 14 = true := by kernel_rfl
theorem fn_15 : qfn Tryz.prog 15 = true := by kernel_rfl
theorem fn_16 : qfn Tryz.prog 16 = true := by kernel_rfl
theorem fn_19 : qfn Tryz.prog 19 = true := by kernel_rfl
theorem fn_20 : qfn Tryz.prog 20 = true := by kernel_rfl
theorem fn_21 : qfn Tryz.prog 21 = true := by kernel_rfl
theorem fn_22 : qfn Tryz.prog 22 = true := by kernel_rfl
theorem fn_28 : qfn Tryz.prog 28 = true := by kernel_rfl
theorem fn_30 : qfn Tryz.prog 30 = true := by kernel_rfl
theorem fn_42 : qfn Tryz.prog 42 = true := by kernel_rfl
theorem fo_45_1 : qfld Tryz.prog 45 1 = some 32 := by kernel_rfl
theorem fo_45_2 : qfld Tryz.prog 45 2 = some 33 := by kernel_rfl
theorem fo_45_4 : qfld Tryz.prog 45 4 = some 35 := by kernel_rfl
theorem fo_45_5 : qfld Tryz.prog 45 5 = some 45 := by kernel_rfl
theorem fo_76_1 : qfld Tryz.prog 76 1 = some 32 := by kernel_rfl
theorem fo_76_3 : qfld Tryz.prog 76 3 = some 35 := by kernel_rfl
theorem fo_76_4 : qfld Tryz.prog 76 4 = some 45 := by kernel_rfl
theorem qa_74 : qarr Tryz.prog 74 = some (2, 73, 1) := by kernel_rfl
theorem qr_30 : qrow Tryz.prog 30 = some false := by kernel_rfl
theorem qr_73 : qrow Tryz.prog 73 = some false := by kernel_rfl
theorem qu_47 : qund Tryz.prog 47 = some (.pointer 76) := by kernel_rfl
theorem qz_35 : qzero Tryz.prog 35 = some ([nn 0, nn 0, .slice none 0 0, nn 0, .slice none 0 0, nn 0, .slice none 0 0, nn 0, .slice none 0 0, nn 0]) := by kernel_rfl
theorem sz_74 : qsz Tryz.prog 74 = some 2 := by kernel_rfl
theorem fn_17 : qfn Tryz.prog 17 = true := by kernel_rfl
theorem fn_18 : qfn Tryz.prog 18 = true := by kernel_rfl
theorem fn_23 : qfn Tryz.prog 23 = true := by kernel_rfl
theorem fn_24 : qfn Tryz.prog 24 = true := by kernel_rfl
theorem fn_25 : qfn Tryz.prog 25 = true := by kernel_rfl
theorem fn_27 : qfn Tryz.prog 27 = true := by kernel_rfl
theorem fn_31 : qfn Tryz.prog 31 = true := by kernel_rfl
theorem fo_43_0 : qfld Tryz.prog 43 0 = some 0 := by kernel_rfl
theorem fo_43_1 : qfld Tryz.prog 43 1 = some 1 := by kernel_rfl
theorem fo_43_2 : qfld Tryz.prog 43 2 = some 3 := by kernel_rfl
theorem fo_43_3 : qfld Tryz.prog 43 3 = some 5 := by kernel_rfl
theorem fo_45_0 : qfld Tryz.prog 45 0 = some 0 := by kernel_rfl
theorem fo_45_3 : qfld Tryz.prog 45 3 = some 34 := by kernel_rfl
theorem fo_45_8 : qfld Tryz.prog 45 8 = some 57 := by kernel_rfl
theorem fo_76_0 : qfld Tryz.prog 76 0 = some 0 := by kernel_rfl
theorem fo_76_2 : qfld Tryz.prog 76 2 = some 34 := by kernel_rfl
theorem fo_76_5 : qfld Tryz.prog 76 5 = some 55 := by kernel_rfl
theorem fo_76_6 : qfld Tryz.prog 76 6 = some 56 := by kernel_rfl
theorem fo_76_7 : qfld Tryz.prog 76 7 = some 57 := by kernel_rfl
theorem fo_76_8 : qfld Tryz.prog 76 8 = some 63 := by kernel_rfl
theorem qr_37 : qrow Tryz.prog 37 = some false := by kernel_rfl
theorem qs_36 : qsl Tryz.prog 36 = some (128, 37, 96) := by kernel_rfl
theorem qz_128 : qzero Tryz.prog 128 = some ([.string ByteArray.empty, nn 0] ++ (hc (List.replicate 32 0) ++ ([.string ByteArray.empty, nn 0, .string ByteArray.empty]))) := by kernel_rfl
theorem sz_30 : qsz Tryz.prog 30 = some 1 := by kernel_rfl
theorem sz_36 : qsz Tryz.prog 36 = some 1 := by kernel_rfl
theorem sz_37 : qsz Tryz.prog 37 = some 1 := by kernel_rfl
theorem sz_73 : qsz Tryz.prog 73 = some 1 := by kernel_rfl
theorem fn_36 : qfn Tryz.prog 36 = true := by kernel_rfl
theorem qr_43 : qrow Tryz.prog 43 = some true := by kernel_rfl
theorem qz_43 : qzero Tryz.prog 43 = some ([.slice none 0 0, .slice none 0 0, .slice none 0 0, .slice none 0 0, .slice none 0 0, .slice none 0 0]) := by kernel_rfl
theorem sz_43 : qsz Tryz.prog 43 = some 6 := by kernel_rfl
theorem fn_124 : qfn Tryz.prog 124 = true := by kernel_rfl
theorem fn_126 : qfn Tryz.prog 126 = true := by kernel_rfl
theorem fn_127 : qfn Tryz.prog 127 = true := by kernel_rfl
theorem fn_129 : qfn Tryz.prog 129 = true := by kernel_rfl
theorem fn_131 : qfn Tryz.prog 131 = true := by kernel_rfl
theorem fn_132 : qfn Tryz.prog 132 = true := by kernel_rfl
theorem fn_135 : qfn Tryz.prog 135 = true := by kernel_rfl
theorem qz_53 : qzero Tryz.prog 53 = some ([nn 0, nn 0, nn 0] ++ (hc (List.replicate 32 0))) := by kernel_rfl
theorem qz_56 : qzero Tryz.prog 56 = some ([nn 0, nn 0, .slice none 0 0]) := by kernel_rfl
theorem qz_82 : qzero Tryz.prog 82 = some ([.string ByteArray.empty, nn 0, nn 0, .slice none 0 0, .slice none 0 0]) := by kernel_rfl
theorem sz_54 : qsz Tryz.prog 54 = some 1 := by kernel_rfl
theorem fn_130 : qfn Tryz.prog 130 = true := by kernel_rfl
theorem fn_147 : qfn Tryz.prog 147 = true := by kernel_rfl
theorem fn_74 : qfn Tryz.prog 74 = true := by kernel_rfl
theorem fn_75 : qfn Tryz.prog 75 = true := by kernel_rfl
theorem fn_77 : qfn Tryz.prog 77 = true := by kernel_rfl
theorem fo_114_0 : qfld Tryz.prog 114 0 = some 0 := by kernel_rfl
theorem fn_32 : qfn Tryz.prog 32 = true := by kernel_rfl
theorem fn_33 : qfn Tryz.prog 33 = true := by kernel_rfl
theorem fn_34 : qfn Tryz.prog 34 = true := by kernel_rfl
theorem fn_35 : qfn Tryz.prog 35 = true := by kernel_rfl
theorem fn_76 : qfn Tryz.prog 76 = true := by kernel_rfl
theorem fn_78 : qfn Tryz.prog 78 = true := by kernel_rfl
theorem fn_79 : qfn Tryz.prog 79 = true := by kernel_rfl
theorem fn_80 : qfn Tryz.prog 80 = true := by kernel_rfl
theorem fn_81 : qfn Tryz.prog 81 = true := by kernel_rfl
theorem fo_59_0 : qfld Tryz.prog 59 0 = some 0 := by kernel_rfl
theorem fo_59_1 : qfld Tryz.prog 59 1 = some 10 := by kernel_rfl
theorem fo_59_3 : qfld Tryz.prog 59 3 = some 46 := by kernel_rfl
theorem qr_59 : qrow Tryz.prog 59 = some true := by kernel_rfl
theorem qs_57 : qsl Tryz.prog 57 = some (82, 5, 80) := by kernel_rfl
theorem qu_57 : qund Tryz.prog 57 = some (.slice 82) := by kernel_rfl
theorem qz_59 : qzero Tryz.prog 59 = some ([nn 0, nn 0, .slice none 0 0, nn 0, .slice none 0 0, nn 0, .slice none 0 0, nn 0, .slice none 0 0, nn 0, .bool false, nn 0, nn 0, nn 0] ++ (hc (List.replicate 32 0) ++ ([nn 0, nn 0, .slice none 0 0, .slice none 0 0]))) := by kernel_rfl
theorem sz_59 : qsz Tryz.prog 59 = some 50 := by kernel_rfl
theorem fn_10 : qfn Tryz.prog 10 = true := by kernel_rfl
theorem fn_11 : qfn Tryz.prog 11 = true := by kernel_rfl
theorem fn_12 : qfn Tryz.prog 12 = true := by kernel_rfl
theorem fn_13 : qfn Tryz.prog 13 = true := by kernel_rfl
theorem fn_4 : qfn Tryz.prog 4 = true := by kernel_rfl
theorem fn_5 : qfn Tryz.prog 5 = true := by kernel_rfl
theorem fn_6 : qfn Tryz.prog 6 = true := by kernel_rfl
theorem fn_7 : qfn Tryz.prog 7 = true := by kernel_rfl
theorem fn_8 : qfn Tryz.prog 8 = true := by kernel_rfl
theorem fn_9 : qfn Tryz.prog 9 = true := by kernel_rfl
theorem pt_35_0 : qpart Tryz.prog 35 0 = some (0, 3) := by kernel_rfl
theorem pt_43_3 : qpart Tryz.prog 43 3 = some (5, 37) := by kernel_rfl
end Go.Proofs.YtiggfalelcepbaaGreatDoor
