/- A part of the proof: an evaluator of the model, its laws, and contracts of functions; no condition. -/
import Derived.Test.YtobejpplmjfkpaaDoorEvT
set_option linter.unusedVariables false
set_option maxRecDepth 100000
namespace Go.Proofs.YtobejpplmjfkpaaDoor.X
open Go Go.Ev
noncomputable def internal_strconv_FormatInt_j1 (e : Env) (w : World) : Option (Value × World) := exC P (EV P) 46 54 (cB (cB (cB (cB (cA (cB (cA (cB (bodyOf P 46))))))))) e w (kSeq P (EV P) 46 54 (cB (cB (bodyOf P 46))) (kFn P (fnOf P 46)))
theorem internal_strconv_FormatInt_j1_eq (e : Env) (w : World) : internal_strconv_FormatInt_j1 e w =
 (vl (e 6) w).bind fun r1 =>
 (EV P 55 #[r1.1] r1.2).bind fun r2 =>
 (vl r2.1 r2.2).bind fun r3 =>
 (vl r3.1 r3.2).bind fun r4 =>
 (bo P .add 3 (.const (.int .i64 1)) (.tmp 28) (.int .i64 1) r4.1 r4.2).bind fun r5 =>
 (sl P 78 (e 5) (some (.int .i64 1)) (some r5.1) none r5.2).bind fun r6 =>
 (vl (e 6) r6.2).bind fun r7 =>
 (EV P 56 #[r6.1, r7.1] r7.2).bind fun r8 =>
 (vl (e 0) r8.2).bind fun r9 =>
 (bo P .lss 2 (.tmp 33) (.const (.int .i64 0)) r9.1 (.int .i64 0) r9.2).bind fun r10 =>
 cnd r10.1 (
 (ia P 78 (e 5) (.int .i64 0) r10.2).bind fun r11 =>
 (st P 5 r11.1 (.int .u8 45) r11.2).bind fun r12 =>
 (vl r3.1 r12.2).bind fun r13 =>
 (bo P .add 3 (.const (.int .i64 1)) (.tmp 36) (.int .i64 1) r13.1 r13.2).bind fun r14 =>
 (sl P 78 (e 5) none (some r14.1) none r14.2).bind fun r15 =>
 (cv P 32 9 r15.1 r15.2).bind fun r16 =>
 (vl r16.1 r16.2).bind fun r17 =>
 some (r17.1, r17.2)) (
 (vl r3.1 r10.2).bind fun r18 =>
 (bo P .add 3 (.const (.int .i64 1)) (.tmp 40) (.int .i64 1) r18.1 r18.2).bind fun r19 =>
 (sl P 78 (e 5) (some (.int .i64 1)) (some r19.1) none r19.2).bind fun r20 =>
 (cv P 32 9 r20.1 r20.2).bind fun r21 =>
 (vl r21.1 r21.2).bind fun r22 =>
 some (r22.1, r22.2)) := by kernel_rfl
theorem internal_strconv_FormatInt_fn (x0 x1 : Value) (w : World) : fnC P (EV P) 46 #[x0, x1] w =
 (vl (Go.Value.string { data := #[] }) w).bind fun r1 =>
 (vl x1 r1.2).bind fun r2 =>
 (bo P .eql 3 (.tmp 10) (.const (.int .i64 10)) r2.1 (.int .i64 10) r2.2).bind fun r3 =>
 cnd r3.1 (
 (vl x0 r3.2).bind fun r4 =>
 (bo P .leq 2 (.const (.int .i64 0)) (.tmp 12) (.int .i64 0) r4.1 r4.2).bind fun r5 =>
 (vl r5.1 r5.2).bind fun r6 =>
 (gif r6.1 true (vl x0 r6.2) r6.2).bind fun r7 =>
 (gif r6.1 true (bo P .lss 2 (.tmp 15) (.const (.int .i64 100)) r7.1 (.int .i64 100) r7.2) r7.2).bind fun r8 =>
 (pickV r6.1 r8.1 (.bool false) r8.2).bind fun r9 =>
 cnd r9.1 (
 (vl x0 r9.2).bind fun r10 =>
 (EV P 54 #[r10.1] r10.2).bind fun r11 =>
 (vl r11.1 r11.2).bind fun r12 =>
 some (r12.1, r12.2)) (
 (al P 78 r9.2).bind fun r13 =>
 (vl x0 r13.2).bind fun r14 =>
 (cv P 2 71 r14.1 r14.2).bind fun r15 =>
 (vl r15.1 r15.2).bind fun r16 =>
 (vl x0 r16.2).bind fun r17 =>
 (bo P .lss 2 (.tmp 22) (.const (.int .i64 0)) r17.1 (.int .i64 0) r17.2).bind fun r18 =>
 cnd r18.1 (
 (vl r16.1 r18.2).bind fun r19 =>
 (uo P .neg r19.1 r19.2).bind fun r20 =>
 (vl r20.1 r20.2).bind fun r21 =>
 internal_strconv_FormatInt_j1 (ups (env0 #[x0, x1]) [(4, r1.1), (10, r2.1), (11, r3.1), (12, r4.1), (13, r5.1), (14, r6.1), (15, r7.1), (16, r8.1), (17, r9.1), (5, r13.1), (20, r14.1), (21, r15.1), (6, r16.1), (22, r17.1), (23, r18.1), (24, r19.1), (25, r20.1), (6, r21.1)]) r21.2) (
 internal_strconv_FormatInt_j1 (ups (env0 #[x0, x1]) [(4, r1.1), (10, r2.1), (11, r3.1), (12, r4.1), (13, r5.1), (14, r6.1), (15, r7.1), (16, r8.1), (17, r9.1), (5, r13.1), (20, r14.1), (21, r15.1), (6, r16.1), (22, r17.1), (23, r18.1)]) r18.2))) (
 (vl x0 r3.2).bind fun r22 =>
 (cv P 2 71 r22.1 r22.2).bind fun r23 =>
 (vl x1 r23.2).bind fun r24 =>
 (vl x0 r24.2).bind fun r25 =>
 (bo P .lss 2 (.tmp 48) (.const (.int .i64 0)) r25.1 (.int .i64 0) r25.2).bind fun r26 =>
 (EV P 57 #[(Go.Value.slice none 0 0), r23.1, r24.1, r26.1, (.bool false)] r26.2).bind fun r27 =>
 (vl r27.1 r27.2).bind fun r28 =>
 (xt P r28.1 0 r28.2).bind fun r29 =>
 (xt P r28.1 1 r29.2).bind fun r30 =>
 (vl r29.1 r30.2).bind fun r31 =>
 (vl r30.1 r31.2).bind fun r32 =>
 (vl r32.1 r32.2).bind fun r33 =>
 (vl r33.1 r33.2).bind fun r34 =>
 some (r34.1, r34.2)) := by kernel_rfl
theorem internal_stringslite_IndexByte_fn (x0 x1 : Value) (w : World) : fnC P (EV P) 47 #[x0, x1] w =
 (vl (.int .i64 0) w).bind fun r1 =>
 (vl x0 r1.2).bind fun r2 =>
 (vl x1 r2.2).bind fun r3 =>
 (xf P 58 #[r2.1, r3.1] r3.2).bind fun r4 =>
 (vl r4.1 r4.2).bind fun r5 =>
 some (r5.1, r5.2) := by kernel_rfl
noncomputable def internal_strconv_ParseUint_j1 (e : Env) (w : World) : Option (Value × World) := exC P (EV P) 51 172 (cB (cB (cB (cB (cB (bodyOf P 51)))))) e w (kFn P (fnOf P 51))
noncomputable def internal_strconv_ParseUint_j2 (e : Env) (w : World) : Option (Value × World) := exC P (EV P) 51 172 (cB (cB (cB (cB (cB (cB (bodyOf P 51))))))) e w (kFn P (fnOf P 51))
noncomputable def internal_strconv_ParseUint_j3 (e : Env) (w : World) : Option (Value × World) := exC P (EV P) 51 172 (cB (cB (cB (cB (cB (cB (cB (cB (bodyOf P 51))))))))) e w (kFn P (fnOf P 51))
noncomputable def internal_strconv_ParseUint_l1 (e : Env) (w : World) : Option (Value × World) := exC P (EV P) 51 172 (.loop (cA (cA (cB (cA (cB (cB (cB (cB (cB (cB (cB (cB (cB (cB (cB (bodyOf P 51))))))))))))))))) e w (kBlock 3 (kSeq P (EV P) 51 172 (cB (cB (cB (cB (cB (cB (cB (cB (cB (cB (cB (cB (bodyOf P 51))))))))))))) (kFn P (fnOf P 51))))
noncomputable def internal_strconv_ParseUint_j4 (e : Env) (w : World) : Option (Value × World) := exC P (EV P) 51 172 (cB (cB (cB (cA (cA (cB (cA (cB (cB (cB (cB (cB (cB (cB (cB (cB (cB (cB (bodyOf P 51))))))))))))))))))) e w (kLoop P (EV P) 51 172 (cA (cA (cB (cA (cB (cB (cB (cB (cB (cB (cB (cB (cB (cB (cB (bodyOf P 51)))))))))))))))) (kBlock 3 (kSeq P (EV P) 51 172 (cB (cB (cB (cB (cB (cB (cB (cB (cB (cB (cB (cB (bodyOf P 51))))))))))))) (kFn P (fnOf P 51)))))
noncomputable def internal_strconv_ParseUint_j5 (e : Env) (w : World) : Option (Value × World) := exC P (EV P) 51 172 (cB (cB (cB (cA (cA (cB (cB (cA (cA (cB (cA (cB (cB (cB (cB (cB (cB (cB (cB (cB (cB (cB (bodyOf P 51))))))))))))))))))))))) e w (kBlock 4 (kSeq P (EV P) 51 172 (cB (cB (cB (cA (cA (cB (cA (cB (cB (cB (cB (cB (cB (cB (cB (cB (cB (cB (bodyOf P 51))))))))))))))))))) (kLoop P (EV P) 51 172 (cA (cA (cB (cA (cB (cB (cB (cB (cB (cB (cB (cB (cB (cB (cB (bodyOf P 51)))))))))))))))) (kBlock 3 (kSeq P (EV P) 51 172 (cB (cB (cB (cB (cB (cB (cB (cB (cB (cB (cB (cB (bodyOf P 51))))))))))))) (kFn P (fnOf P 51)))))))
theorem internal_strconv_ParseUint_j1_eq (e : Env) (w : World) : internal_strconv_ParseUint_j1 e w =
 (vl (e 2) w).bind fun r1 =>
 (bo P .eql 3 (.tmp 76) (.const (.int .i64 0)) r1.1 (.int .i64 0) r1.2).bind fun r2 =>
 cnd r2.1 (
 (vl (.int .i64 64) r2.2).bind fun r3 =>
 internal_strconv_ParseUint_j2 (ups e [(76, r1.1), (77, r2.1), (2, r3.1)]) r3.2) (
 (vl (e 2) r2.2).bind fun r4 =>
 (bo P .lss 3 (.tmp 78) (.const (.int .i64 0)) r4.1 (.int .i64 0) r4.2).bind fun r5 =>
 (vl r5.1 r5.2).bind fun r6 =>
 (gif r6.1 false (vl (e 2) r6.2) r6.2).bind fun r7 =>
 (gif r6.1 false (bo P .gtr 3 (.tmp 81) (.const (.int .i64 64)) r7.1 (.int .i64 64) r7.2) r7.2).bind fun r8 =>
 (pickV r6.1 (.bool true) r8.1 r8.2).bind fun r9 =>
 cnd r9.1 (
 (mi P 62 (.int .i64 4) r9.2).bind fun r10 =>
 (vl (.int .u64 0) r10.2).bind fun r11 =>
 (vl r10.1 r11.2).bind fun r12 =>
 some (.tuple #[r11.1, r12.1], r12.2)) (
 internal_strconv_ParseUint_j2 (ups e [(76, r1.1), (77, r2.1), (78, r4.1), (79, r5.1), (80, r6.1), (81, r7.1), (82, r8.1), (83, r9.1)]) r9.2)) := by kernel_rfl
theorem internal_strconv_ParseUint_j2_eq (e : Env) (w : World) : internal_strconv_ParseUint_j2 e w =
 (vl (.int .u64 0) w).bind fun r1 =>
 (vl (e 1) r1.2).bind fun r2 =>
 (bo P .eql 3 (.tmp 85) (.const (.int .i64 10)) r2.1 (.int .i64 10) r2.2).bind fun r3 =>
 (vl r3.1 r3.2).bind fun r4 =>
 cnd r4.1 (
 (vl (.int .u64 1844674407370955162) r4.2).bind fun r5 =>
 internal_strconv_ParseUint_j3 (ups e [(10, r1.1), (85, r2.1), (91, r3.1), (90, r4.1), (10, r5.1)]) r5.2) (
 (bo P .eql 3 (.tmp 85) (.const (.int .i64 16)) r2.1 (.int .i64 16) r4.2).bind fun r6 =>
 (vl r6.1 r6.2).bind fun r7 =>
 cnd r7.1 (
 (vl (.int .u64 1152921504606846976) r7.2).bind fun r8 =>
 internal_strconv_ParseUint_j3 (ups e [(10, r1.1), (85, r2.1), (91, r3.1), (90, r4.1), (93, r6.1), (92, r7.1), (10, r8.1)]) r8.2) (
 (vl (e 1) r7.2).bind fun r9 =>
 (cv P 3 71 r9.1 r9.2).bind fun r10 =>
 (bo P .quo 71 (.const (.int .u64 18446744073709551615)) (.tmp 87) (.int .u64 18446744073709551615) r10.1 r10.2).bind fun r11 =>
 (bo P .add 71 (.tmp 88) (.const (.int .u64 1)) r11.1 (.int .u64 1) r11.2).bind fun r12 =>
 (vl r12.1 r12.2).bind fun r13 =>
 internal_strconv_ParseUint_j3 (ups e [(10, r1.1), (85, r2.1), (91, r3.1), (90, r4.1), (93, r6.1), (92, r7.1), (86, r9.1), (87, r10.1), (88, r11.1), (89, r12.1), (10, r13.1)]) r13.2)) := by kernel_rfl
theorem internal_strconv_ParseUint_j3_eq (e : Env) (w : World) : internal_strconv_ParseUint_j3 e w =
 (vl (e 2) w).bind fun r1 =>
 (cv P 3 70 r1.1 r1.2).bind fun r2 =>
 (bo P .shl 71 (.const (.int .u64 1)) (.tmp 95) (.int .u64 1) r2.1 r2.2).bind fun r3 =>
 (bo P .sub 71 (.tmp 96) (.const (.int .u64 1)) r3.1 (.int .u64 1) r3.2).bind fun r4 =>
 (vl r4.1 r4.2).bind fun r5 =>
 (vl (.bool false) r5.2).bind fun r6 =>
 (vl (.int .u64 0) r6.2).bind fun r7 =>
 (vl (e 0) r7.2).bind fun r8 =>
 (cv P 9 32 r8.1 r8.2).bind fun r9 =>
 (b_len P #[32] 3 #[r9.1] r9.2).bind fun r10 =>
 (vl (.int .i64 0) r10.2).bind fun r11 =>
 internal_strconv_ParseUint_l1 (ups e [(94, r1.1), (95, r2.1), (96, r3.1), (97, r4.1), (11, r5.1), (12, r6.1), (13, r7.1), (98, r8.1), (99, r9.1), (100, r10.1), (101, r11.1)]) r11.2 := by kernel_rfl
theorem internal_strconv_ParseUint_l1_eq (e : Env) (w : World) : internal_strconv_ParseUint_l1 e w =
 (bo P .lss 3 (.tmp 101) (.tmp 100) (e 101) (e 100) w).bind fun r1 =>
 cnd r1.1 (
 (ia P 32 (e 99) (e 101) r1.2).bind fun r2 =>
 (ld P 5 r2.1 r2.2).bind fun r3 =>
 (vl r3.1 r3.2).bind fun r4 =>
 (vl (.int .u8 0) r4.2).bind fun r5 =>
 (vl r4.1 r5.2).bind fun r6 =>
 (bo P .eql 5 (.tmp 107) (.const (.int .u8 95)) r6.1 (.int .u8 95) r6.2).bind fun r7 =>
 (vl r7.1 r7.2).bind fun r8 =>
 (gif r8.1 true (vl (e 8) r8.2) r8.2).bind fun r9 =>
 (pickV r8.1 r9.1 (.bool false) r9.2).bind fun r10 =>
 (vl r10.1 r10.2).bind fun r11 =>
 cnd r11.1 (
 (vl (.bool true) r11.2).bind fun r12 =>
 internal_strconv_ParseUint_j4 (ups e [(102, r1.1), (103, r2.1), (104, r3.1), (15, r4.1), (16, r5.1), (107, r6.1), (108, r7.1), (109, r8.1), (110, r9.1), (111, r10.1), (106, r11.1), (12, r12.1)]) r12.2) (
 (vl r4.1 r11.2).bind fun r13 =>
 (bo P .leq 5 (.const (.int .u8 48)) (.tmp 113) (.int .u8 48) r13.1 r13.2).bind fun r14 =>
 (vl r14.1 r14.2).bind fun r15 =>
 (gif r15.1 true (vl r4.1 r15.2) r15.2).bind fun r16 =>
 (gif r15.1 true (bo P .leq 5 (.tmp 116) (.const (.int .u8 57)) r16.1 (.int .u8 57) r16.2) r16.2).bind fun r17 =>
 (pickV r15.1 r17.1 (.bool false) r17.2).bind fun r18 =>
 (vl r18.1 r18.2).bind fun r19 =>
 cnd r19.1 (
 (vl r4.1 r19.2).bind fun r20 =>
 (bo P .sub 5 (.tmp 119) (.const (.int .u8 48)) r20.1 (.int .u8 48) r20.2).bind fun r21 =>
 (vl r21.1 r21.2).bind fun r22 =>
 internal_strconv_ParseUint_j5 (ups e [(102, r1.1), (103, r2.1), (104, r3.1), (15, r4.1), (16, r5.1), (107, r6.1), (108, r7.1), (109, r8.1), (110, r9.1), (111, r10.1), (106, r11.1), (113, r13.1), (114, r14.1), (115, r15.1), (116, r16.1), (117, r17.1), (118, r18.1), (112, r19.1), (119, r20.1), (120, r21.1), (16, r22.1)]) r22.2) (
 (vl r4.1 r19.2).bind fun r23 =>
 (EV P 60 #[r23.1] r23.2).bind fun r24 =>
 (bo P .leq 5 (.const (.int .u8 97)) (.tmp 123) (.int .u8 97) r24.1 r24.2).bind fun r25 =>
 (vl r25.1 r25.2).bind fun r26 =>
 (gif r26.1 true (vl r4.1 r26.2) r26.2).bind fun r27 =>
 (gif r26.1 true (EV P 60 #[r27.1] r27.2) r27.2).bind fun r28 =>
 (gif r26.1 true (bo P .leq 5 (.tmp 127) (.const (.int .u8 122)) r28.1 (.int .u8 122) r28.2) r28.2).bind fun r29 =>
 (pickV r26.1 r29.1 (.bool false) r29.2).bind fun r30 =>
 (vl r30.1 r30.2).bind fun r31 =>
 cnd r31.1 (
 (vl r4.1 r31.2).bind fun r32 =>
 (EV P 60 #[r32.1] r32.2).bind fun r33 =>
 (bo P .sub 5 (.tmp 131) (.const (.int .u8 97)) r33.1 (.int .u8 97) r33.2).bind fun r34 =>
 (bo P .add 5 (.tmp 132) (.const (.int .u8 10)) r34.1 (.int .u8 10) r34.2).bind fun r35 =>
 (vl r35.1 r35.2).bind fun r36 =>
 internal_strconv_ParseUint_j5 (ups e [(102, r1.1), (103, r2.1), (104, r3.1), (15, r4.1), (16, r5.1), (107, r6.1), (108, r7.1), (109, r8.1), (110, r9.1), (111, r10.1), (106, r11.1), (113, r13.1), (114, r14.1), (115, r15.1), (116, r16.1), (117, r17.1), (118, r18.1), (112, r19.1), (122, r23.1), (123, r24.1), (124, r25.1), (125, r26.1), (126, r27.1), (127, r28.1), (128, r29.1), (129, r30.1), (121, r31.1), (130, r32.1), (131, r33.1), (132, r34.1), (133, r35.1), (16, r36.1)]) r36.2) (
 (mi P 62 (.int .i64 2) r31.2).bind fun r37 =>
 (vl (.int .u64 0) r37.2).bind fun r38 =>
 (vl r37.1 r38.2).bind fun r39 =>
 some (.tuple #[r38.1, r39.1], r39.2))))) (
 (vl (e 12) r1.2).bind fun r40 =>
 (vl r40.1 r40.2).bind fun r41 =>
 (gif r41.1 true (vl (e 9) r41.2) r41.2).bind fun r42 =>
 (gif r41.1 true (EV P 61 #[r42.1] r42.2) r42.2).bind fun r43 =>
 (gif r41.1 true (uo P .not r43.1 r43.2) r43.2).bind fun r44 =>
 (pickV r41.1 r44.1 (.bool false) r44.2).bind fun r45 =>
 cnd r45.1 (
 (mi P 62 (.int .i64 2) r45.2).bind fun r46 =>
 (vl (.int .u64 0) r46.2).bind fun r47 =>
 (vl r46.1 r47.2).bind fun r48 =>
 some (.tuple #[r47.1, r48.1], r48.2)) (
 (vl (e 13) r45.2).bind fun r49 =>
 (vl r49.1 r49.2).bind fun r50 =>
 (vl Go.Value.nilIface r50.2).bind fun r51 =>
 some (.tuple #[r50.1, r51.1], r51.2))) := (exC_loop P (EV P) 51 172 (cA (cA (cB (cA (cB (cB (cB (cB (cB (cB (cB (cB (cB (cB (cB (bodyOf P 51)))))))))))))))) e w (kBlock 3 (kSeq P (EV P) 51 172 (cB (cB (cB (cB (cB (cB (cB (cB (cB (cB (cB (cB (bodyOf P 51))))))))))))) (kFn P (fnOf P 51))))).trans (by kernel_rfl)
theorem internal_strconv_ParseUint_j4_eq (e : Env) (w : World) : internal_strconv_ParseUint_j4 e w =
 (bo P .add 3 (.tmp 101) (.const (.int .i64 1)) (e 101) (.int .i64 1) w).bind fun r1 =>
 (vl r1.1 r1.2).bind fun r2 =>
 internal_strconv_ParseUint_l1 (ups e [(163, r1.1), (101, r2.1)]) r2.2 := by kernel_rfl
theorem internal_strconv_ParseUint_j5_eq (e : Env) (w : World) : internal_strconv_ParseUint_j5 e w =
 (vl (e 16) w).bind fun r1 =>
 (vl (e 1) r1.2).bind fun r2 =>
 (cv P 3 5 r2.1 r2.2).bind fun r3 =>
 (bo P .geq 5 (.tmp 134) (.tmp 136) r1.1 r3.1 r3.2).bind fun r4 =>
 cnd r4.1 (
 (mi P 62 (.int .i64 2) r4.2).bind fun r5 =>
 (vl (.int .u64 0) r5.2).bind fun r6 =>
 (vl r5.1 r6.2).bind fun r7 =>
 some (.tuple #[r6.1, r7.1], r7.2)) (
 (vl (e 13) r4.2).bind fun r8 =>
 (vl (e 10) r8.2).bind fun r9 =>
 (bo P .geq 71 (.tmp 139) (.tmp 140) r8.1 r9.1 r9.2).bind fun r10 =>
 cnd r10.1 (
 (vl (e 11) r10.2).bind fun r11 =>
 (mi P 62 (.int .i64 1) r11.2).bind fun r12 =>
 (vl r11.1 r12.2).bind fun r13 =>
 (vl r12.1 r13.2).bind fun r14 =>
 some (.tuple #[r13.1, r14.1], r14.2)) (
 (vl (e 13) r10.2).bind fun r15 =>
 (vl (e 1) r15.2).bind fun r16 =>
 (cv P 3 71 r16.1 r16.2).bind fun r17 =>
 (bo P .mul 71 (.tmp 144) (.tmp 146) r15.1 r17.1 r17.2).bind fun r18 =>
 (vl r18.1 r18.2).bind fun r19 =>
 (vl r19.1 r19.2).bind fun r20 =>
 (vl (e 16) r20.2).bind fun r21 =>
 (cv P 5 71 r21.1 r21.2).bind fun r22 =>
 (bo P .add 71 (.tmp 148) (.tmp 150) r20.1 r22.1 r22.2).bind fun r23 =>
 (vl r23.1 r23.2).bind fun r24 =>
 (vl r24.1 r24.2).bind fun r25 =>
 (vl r19.1 r25.2).bind fun r26 =>
 (bo P .lss 71 (.tmp 152) (.tmp 153) r25.1 r26.1 r26.2).bind fun r27 =>
 (vl r27.1 r27.2).bind fun r28 =>
 (gif r28.1 false (vl r24.1 r28.2) r28.2).bind fun r29 =>
 (gif r28.1 false (vl (e 11) r29.2) r29.2).bind fun r30 =>
 (gif r28.1 false (bo P .gtr 71 (.tmp 156) (.tmp 157) r29.1 r30.1 r30.2) r30.2).bind fun r31 =>
 (pickV r28.1 (.bool true) r31.1 r31.2).bind fun r32 =>
 cnd r32.1 (
 (vl (e 11) r32.2).bind fun r33 =>
 (mi P 62 (.int .i64 1) r33.2).bind fun r34 =>
 (vl r33.1 r34.2).bind fun r35 =>
 (vl r34.1 r35.2).bind fun r36 =>
 some (.tuple #[r35.1, r36.1], r36.2)) (
 (vl r24.1 r32.2).bind fun r37 =>
 (vl r37.1 r37.2).bind fun r38 =>
 internal_strconv_ParseUint_j4 (ups e [(134, r1.1), (135, r2.1), (136, r3.1), (137, r4.1), (139, r8.1), (140, r9.1), (141, r10.1), (144, r15.1), (145, r16.1), (146, r17.1), (147, r18.1), (13, r19.1), (148, r20.1), (149, r21.1), (150, r22.1), (151, r23.1), (17, r24.1), (152, r25.1), (153, r26.1), (154, r27.1), (155, r28.1), (156, r29.1), (157, r30.1), (158, r31.1), (159, r32.1), (162, r37.1), (13, r38.1)]) r38.2))) := by kernel_rfl
theorem internal_strconv_ParseUint_fn (x0 x1 x2 : Value) (w : World) : fnC P (EV P) 51 #[x0, x1, x2] w =
 (vl (.int .u64 0) w).bind fun r1 =>
 (vl Go.Value.nilIface r1.2).bind fun r2 =>
 (vl x0 r2.2).bind fun r3 =>
 (bo P .eql 9 (.tmp 18) (.const (Go.Value.string { data := #[] })) r3.1 (Go.Value.string { data := #[] }) r3.2).bind fun r4 =>
 cnd r4.1 (
 (mi P 62 (.int .i64 2) r4.2).bind fun r5 =>
 (vl (.int .u64 0) r5.2).bind fun r6 =>
 (vl r5.1 r6.2).bind fun r7 =>
 some (.tuple #[r6.1, r7.1], r7.2)) (
 (vl x1 r4.2).bind fun r8 =>
 (bo P .eql 3 (.tmp 21) (.const (.int .i64 0)) r8.1 (.int .i64 0) r8.2).bind fun r9 =>
 (vl r9.1 r9.2).bind fun r10 =>
 (vl x0 r10.2).bind fun r11 =>
 (vl r11.1 r11.2).bind fun r12 =>
 (vl x1 r12.2).bind fun r13 =>
 (bo P .leq 3 (.const (.int .i64 2)) (.tmp 26) (.int .i64 2) r13.1 r13.2).bind fun r14 =>
 (vl r14.1 r14.2).bind fun r15 =>
 (gif r15.1 true (vl x1 r15.2) r15.2).bind fun r16 =>
 (gif r15.1 true (bo P .leq 3 (.tmp 29) (.const (.int .i64 36)) r16.1 (.int .i64 36) r16.2) r16.2).bind fun r17 =>
 (pickV r15.1 r17.1 (.bool false) r17.2).bind fun r18 =>
 (vl r18.1 r18.2).bind fun r19 =>
 cnd r19.1 (
 internal_strconv_ParseUint_j1 (ups (env0 #[x0, x1, x2]) [(6, r1.1), (7, r2.1), (18, r3.1), (19, r4.1), (21, r8.1), (22, r9.1), (8, r10.1), (23, r11.1), (9, r12.1), (26, r13.1), (27, r14.1), (28, r15.1), (29, r16.1), (30, r17.1), (31, r18.1), (25, r19.1)]) r19.2) (
 (vl x1 r19.2).bind fun r20 =>
 (bo P .eql 3 (.tmp 33) (.const (.int .i64 0)) r20.1 (.int .i64 0) r20.2).bind fun r21 =>
 (vl r21.1 r21.2).bind fun r22 =>
 cnd r22.1 (
 (vl (.int .i64 10) r22.2).bind fun r23 =>
 (vl x0 r23.2).bind fun r24 =>
 (ix P 9 r24.1 (.int .i64 0) r24.2).bind fun r25 =>
 (bo P .eql 5 (.tmp 36) (.const (.int .u8 48)) r25.1 (.int .u8 48) r25.2).bind fun r26 =>
 cnd r26.1 (
 (vl x0 r26.2).bind fun r27 =>
 (b_len P #[9] 3 #[r27.1] r27.2).bind fun r28 =>
 (bo P .geq 3 (.tmp 42) (.const (.int .i64 3)) r28.1 (.int .i64 3) r28.2).bind fun r29 =>
 (vl r29.1 r29.2).bind fun r30 =>
 (gif r30.1 true (vl x0 r30.2) r30.2).bind fun r31 =>
 (gif r30.1 true (ix P 9 r31.1 (.int .i64 1) r31.2) r31.2).bind fun r32 =>
 (gif r30.1 true (EV P 60 #[r32.1] r32.2) r32.2).bind fun r33 =>
 (gif r30.1 true (bo P .eql 5 (.tmp 47) (.const (.int .u8 98)) r33.1 (.int .u8 98) r33.2) r33.2).bind fun r34 =>
 (pickV r30.1 r34.1 (.bool false) r34.2).bind fun r35 =>
 (vl r35.1 r35.2).bind fun r36 =>
 cnd r36.1 (
 (vl (.int .i64 2) r36.2).bind fun r37 =>
 (vl x0 r37.2).bind fun r38 =>
 (sl P 9 r38.1 (some (.int .i64 2)) none none r38.2).bind fun r39 =>
 (vl r39.1 r39.2).bind fun r40 =>
 internal_strconv_ParseUint_j1 (ups (env0 #[x0, x1, x2]) [(6, r1.1), (7, r2.1), (18, r3.1), (19, r4.1), (21, r8.1), (22, r9.1), (8, r10.1), (23, r11.1), (9, r12.1), (26, r13.1), (27, r14.1), (28, r15.1), (29, r16.1), (30, r17.1), (31, r18.1), (25, r19.1), (33, r20.1), (34, r21.1), (32, r22.1), (1, r23.1), (35, r24.1), (36, r25.1), (37, r26.1), (41, r27.1), (42, r28.1), (43, r29.1), (44, r30.1), (45, r31.1), (46, r32.1), (47, r33.1), (48, r34.1), (49, r35.1), (40, r36.1), (1, r37.1), (50, r38.1), (51, r39.1), (0, r40.1)]) r40.2) (
 (vl x0 r36.2).bind fun r41 =>
 (b_len P #[9] 3 #[r41.1] r41.2).bind fun r42 =>
 (bo P .geq 3 (.tmp 54) (.const (.int .i64 3)) r42.1 (.int .i64 3) r42.2).bind fun r43 =>
 (vl r43.1 r43.2).bind fun r44 =>
 (gif r44.1 true (vl x0 r44.2) r44.2).bind fun r45 =>
 (gif r44.1 true (ix P 9 r45.1 (.int .i64 1) r45.2) r45.2).bind fun r46 =>
 (gif r44.1 true (EV P 60 #[r46.1] r46.2) r46.2).bind fun r47 =>
 (gif r44.1 true (bo P .eql 5 (.tmp 59) (.const (.int .u8 111)) r47.1 (.int .u8 111) r47.2) r47.2).bind fun r48 =>
 (pickV r44.1 r48.1 (.bool false) r48.2).bind fun r49 =>
 (vl r49.1 r49.2).bind fun r50 =>
 cnd r50.1 (
 (vl (.int .i64 8) r50.2).bind fun r51 =>
 (vl x0 r51.2).bind fun r52 =>
 (sl P 9 r52.1 (some (.int .i64 2)) none none r52.2).bind fun r53 =>
 (vl r53.1 r53.2).bind fun r54 =>
 internal_strconv_ParseUint_j1 (ups (env0 #[x0, x1, x2]) [(6, r1.1), (7, r2.1), (18, r3.1), (19, r4.1), (21, r8.1), (22, r9.1), (8, r10.1), (23, r11.1), (9, r12.1), (26, r13.1), (27, r14.1), (28, r15.1), (29, r16.1), (30, r17.1), (31, r18.1), (25, r19.1), (33, r20.1), (34, r21.1), (32, r22.1), (1, r23.1), (35, r24.1), (36, r25.1), (37, r26.1), (41, r27.1), (42, r28.1), (43, r29.1), (44, r30.1), (45, r31.1), (46, r32.1), (47, r33.1), (48, r34.1), (49, r35.1), (40, r36.1), (53, r41.1), (54, r42.1), (55, r43.1), (56, r44.1), (57, r45.1), (58, r46.1), (59, r47.1), (60, r48.1), (61, r49.1), (52, r50.1), (1, r51.1), (62, r52.1), (63, r53.1), (0, r54.1)]) r54.2) (
 (vl x0 r50.2).bind fun r55 =>
 (b_len P #[9] 3 #[r55.1] r55.2).bind fun r56 =>
 (bo P .geq 3 (.tmp 66) (.const (.int .i64 3)) r56.1 (.int .i64 3) r56.2).bind fun r57 =>
 (vl r57.1 r57.2).bind fun r58 =>
 (gif r58.1 true (vl x0 r58.2) r58.2).bind fun r59 =>
 (gif r58.1 true (ix P 9 r59.1 (.int .i64 1) r59.2) r59.2).bind fun r60 =>
 (gif r58.1 true (EV P 60 #[r60.1] r60.2) r60.2).bind fun r61 =>
 (gif r58.1 true (bo P .eql 5 (.tmp 71) (.const (.int .u8 120)) r61.1 (.int .u8 120) r61.2) r61.2).bind fun r62 =>
 (pickV r58.1 r62.1 (.bool false) r62.2).bind fun r63 =>
 (vl r63.1 r63.2).bind fun r64 =>
 cnd r64.1 (
 (vl (.int .i64 16) r64.2).bind fun r65 =>
 (vl x0 r65.2).bind fun r66 =>
 (sl P 9 r66.1 (some (.int .i64 2)) none none r66.2).bind fun r67 =>
 (vl r67.1 r67.2).bind fun r68 =>
 internal_strconv_ParseUint_j1 (ups (env0 #[x0, x1, x2]) [(6, r1.1), (7, r2.1), (18, r3.1), (19, r4.1), (21, r8.1), (22, r9.1), (8, r10.1), (23, r11.1), (9, r12.1), (26, r13.1), (27, r14.1), (28, r15.1), (29, r16.1), (30, r17.1), (31, r18.1), (25, r19.1), (33, r20.1), (34, r21.1), (32, r22.1), (1, r23.1), (35, r24.1), (36, r25.1), (37, r26.1), (41, r27.1), (42, r28.1), (43, r29.1), (44, r30.1), (45, r31.1), (46, r32.1), (47, r33.1), (48, r34.1), (49, r35.1), (40, r36.1), (53, r41.1), (54, r42.1), (55, r43.1), (56, r44.1), (57, r45.1), (58, r46.1), (59, r47.1), (60, r48.1), (61, r49.1), (52, r50.1), (65, r55.1), (66, r56.1), (67, r57.1), (68, r58.1), (69, r59.1), (70, r60.1), (71, r61.1), (72, r62.1), (73, r63.1), (64, r64.1), (1, r65.1), (74, r66.1), (75, r67.1), (0, r68.1)]) r68.2) (
 (vl (.int .i64 8) r64.2).bind fun r69 =>
 (vl x0 r69.2).bind fun r70 =>
 (sl P 9 r70.1 (some (.int .i64 1)) none none r70.2).bind fun r71 =>
 (vl r71.1 r71.2).bind fun r72 =>
 internal_strconv_ParseUint_j1 (ups (env0 #[x0, x1, x2]) [(6, r1.1), (7, r2.1), (18, r3.1), (19, r4.1), (21, r8.1), (22, r9.1), (8, r10.1), (23, r11.1), (9, r12.1), (26, r13.1), (27, r14.1), (28, r15.1), (29, r16.1), (30, r17.1), (31, r18.1), (25, r19.1), (33, r20.1), (34, r21.1), (32, r22.1), (1, r23.1), (35, r24.1), (36, r25.1), (37, r26.1), (41, r27.1), (42, r28.1), (43, r29.1), (44, r30.1), (45, r31.1), (46, r32.1), (47, r33.1), (48, r34.1), (49, r35.1), (40, r36.1), (53, r41.1), (54, r42.1), (55, r43.1), (56, r44.1), (57, r45.1), (58, r46.1), (59, r47.1), (60, r48.1), (61, r49.1), (52, r50.1), (65, r55.1), (66, r56.1), (67, r57.1), (68, r58.1), (69, r59.1), (70, r60.1), (71, r61.1), (72, r62.1), (73, r63.1), (64, r64.1), (1, r69.1), (38, r70.1), (39, r71.1), (0, r72.1)]) r72.2)))) (
 internal_strconv_ParseUint_j1 (ups (env0 #[x0, x1, x2]) [(6, r1.1), (7, r2.1), (18, r3.1), (19, r4.1), (21, r8.1), (22, r9.1), (8, r10.1), (23, r11.1), (9, r12.1), (26, r13.1), (27, r14.1), (28, r15.1), (29, r16.1), (30, r17.1), (31, r18.1), (25, r19.1), (33, r20.1), (34, r21.1), (32, r22.1), (1, r23.1), (35, r24.1), (36, r25.1), (37, r26.1)]) r26.2)) (
 (mi P 62 (.int .i64 3) r22.2).bind fun r73 =>
 (vl (.int .u64 0) r73.2).bind fun r74 =>
 (vl r73.1 r74.2).bind fun r75 =>
 some (.tuple #[r74.1, r75.1], r75.2)))) := by kernel_rfl
theorem internal_stringslite_Clone_fn (x0 : Value) (w : World) : fnC P (EV P) 52 #[x0] w =
 (vl (Go.Value.string { data := #[] }) w).bind fun r1 =>
 (vl x0 r1.2).bind fun r2 =>
 (b_len P #[9] 3 #[r2.1] r2.2).bind fun r3 =>
 (bo P .eql 3 (.tmp 5) (.const (.int .i64 0)) r3.1 (.int .i64 0) r3.2).bind fun r4 =>
 cnd r4.1 (
 (vl (Go.Value.string { data := #[] }) r4.2).bind fun r5 =>
 some (r5.1, r5.2)) (
 (vl x0 r4.2).bind fun r6 =>
 (b_len P #[9] 3 #[r6.1] r6.2).bind fun r7 =>
 (ms P 32 r7.1 r7.1 r7.2).bind fun r8 =>
 (vl r8.1 r8.2).bind fun r9 =>
 (vl r9.1 r9.2).bind fun r10 =>
 (vl x0 r10.2).bind fun r11 =>
 (b_copy P #[32, 9] 3 #[r10.1, r11.1] r11.2).bind fun r12 =>
 (vl r9.1 r12.2).bind fun r13 =>
 (ia P 32 r13.1 (.int .i64 0) r13.2).bind fun r14 =>
 (vl r9.1 r14.2).bind fun r15 =>
 (b_len P #[32] 3 #[r15.1] r15.2).bind fun r16 =>
 (gn P { dst := (some 17), op := (Go.Op.call { callee := (Go.Callee.builtin Go.Builtin.unsafeString), args := #[(Go.Operand.tmp 14), (Go.Operand.tmp 16)], argTypes := #[87, 3] }), type := 9, pos := "strings.go:121", after := #[{ on := 1, ground := Go.Ground.data }, { on := 3, ground := Go.Ground.data }], guard := none } (ups (env0 #[x0]) [(2, r1.1), (4, r2.1), (5, r3.1), (6, r4.1), (7, r6.1), (8, r7.1), (9, r8.1), (3, r9.1), (10, r10.1), (11, r11.1), (12, r12.1), (13, r13.1), (14, r14.1), (15, r15.1), (16, r16.1)]) r16.2).bind fun r17 =>
 (vl r17.1 r17.2).bind fun r18 =>
 some (r18.1, r18.2)) := by kernel_rfl
theorem internal_strconv_small_fn (x0 : Value) (w : World) : fnC P (EV P) 54 #[x0] w =
 (vl (Go.Value.string { data := #[] }) w).bind fun r1 =>
 (vl x0 r1.2).bind fun r2 =>
 (bo P .lss 3 (.tmp 3) (.const (.int .i64 10)) r2.1 (.int .i64 10) r2.2).bind fun r3 =>
 cnd r3.1 (
 (vl x0 r3.2).bind fun r4 =>
 (vl x0 r4.2).bind fun r5 =>
 (bo P .add 3 (.tmp 6) (.const (.int .i64 1)) r5.1 (.int .i64 1) r5.2).bind fun r6 =>
 (sl P 9 (Go.Value.string { data := #[48, 49, 50, 51, 52, 53, 54, 55, 56, 57, 97, 98, 99, 100, 101, 102, 103, 104, 105, 106, 107, 108, 109, 110, 111, 112, 113, 114, 115, 116, 117, 118, 119, 120, 121, 122] }) (some r4.1) (some r6.1) none r6.2).bind fun r7 =>
 (vl r7.1 r7.2).bind fun r8 =>
 some (r8.1, r8.2)) (
 (vl x0 r3.2).bind fun r9 =>
 (bo P .mul 3 (.tmp 9) (.const (.int .i64 2)) r9.1 (.int .i64 2) r9.2).bind fun r10 =>
 (vl x0 r10.2).bind fun r11 =>
 (bo P .mul 3 (.tmp 11) (.const (.int .i64 2)) r11.1 (.int .i64 2) r11.2).bind fun r12 =>
 (bo P .add 3 (.tmp 12) (.const (.int .i64 2)) r12.1 (.int .i64 2) r12.2).bind fun r13 =>
 (sl P 9 (Go.Value.string { data := #[48, 48, 48, 49, 48, 50, 48, 51, 48, 52, 48, 53, 48, 54, 48, 55, 48, 56, 48, 57, 49, 48, 49, 49, 49, 50, 49, 51, 49, 52, 49, 53, 49, 54, 49, 55, 49, 56, 49, 57, 50, 48, 50, 49, 50, 50, 50, 51, 50, 52, 50, 53, 50, 54, 50, 55, 50, 56, 50, 57, 51, 48, 51, 49, 51, 50, 51, 51, 51, 52, 51, 53, 51, 54, 51, 55, 51, 56, 51, 57, 52, 48, 52, 49, 52, 50, 52, 51, 52, 52, 52, 53, 52, 54, 52, 55, 52, 56, 52, 57, 53, 48, 53, 49, 53, 50, 53, 51, 53, 52, 53, 53, 53, 54, 53, 55, 53, 56, 53, 57, 54, 48, 54, 49, 54, 50, 54, 51, 54, 52, 54, 53, 54, 54, 54, 55, 54, 56, 54, 57, 55, 48, 55, 49, 55, 50, 55, 51, 55, 52, 55, 53, 55, 54, 55, 55, 55, 56, 55, 57, 56, 48, 56, 49, 56, 50, 56, 51, 56, 52, 56, 53, 56, 54, 56, 55, 56, 56, 56, 57, 57, 48, 57, 49, 57, 50, 57, 51, 57, 52, 57, 53, 57, 54, 57, 55, 57, 56, 57, 57] }) (some r10.1) (some r13.1) none r13.2).bind fun r14 =>
 (vl r14.1 r14.2).bind fun r15 =>
 some (r15.1, r15.2)) := by kernel_rfl
theorem internal_strconv_numDigits_fn (x0 : Value) (w : World) : fnC P (EV P) 55 #[x0] w =
 (vl (.int .i64 0) w).bind fun r1 =>
 (vl x0 r1.2).bind fun r2 =>
 (EV P 63 #[r2.1] r2.2).bind fun r3 =>
 (EV P 62 #[r3.1] r3.2).bind fun r4 =>
 (vl r4.1 r4.2).bind fun r5 =>
 (vl r5.1 r5.2).bind fun r6 =>
 (vl x0 r6.2).bind fun r7 =>
 (vl r5.1 r7.2).bind fun r8 =>
 (ia P 92 (.pointer (some ⟨3, 0, none⟩)) r8.1 r8.2).bind fun r9 =>
 (ld P 71 r9.1 r9.2).bind fun r10 =>
 (bo P .geq 71 (.tmp 8) (.tmp 11) r7.1 r10.1 r10.2).bind fun r11 =>
 (EV P 64 #[r11.1] r11.2).bind fun r12 =>
 (bo P .add 3 (.tmp 7) (.tmp 13) r6.1 r12.1 r12.2).bind fun r13 =>
 (vl r13.1 r13.2).bind fun r14 =>
 some (r14.1, r14.2) := by kernel_rfl
noncomputable def internal_strconv_formatBase10_l1 (e : Env) (w : World) : Option (Value × World) := exC P (EV P) 56 167 (.loop (cA (cA (cA (cB (bodyOf P 56)))))) e w (kBlock 0 (kSeq P (EV P) 56 167 (cB (cB (bodyOf P 56))) (kFn P (fnOf P 56))))
noncomputable def internal_strconv_formatBase10_j1 (e : Env) (w : World) : Option (Value × World) := exC P (EV P) 56 167 (cB (cB (cB (cB (bodyOf P 56))))) e w (kFn P (fnOf P 56))
noncomputable def internal_strconv_formatBase10_j2 (e : Env) (w : World) : Option (Value × World) := exC P (EV P) 56 167 (cB (cB (cB (cB (cB (bodyOf P 56)))))) e w (kFn P (fnOf P 56))
theorem internal_strconv_formatBase10_l1_eq (e : Env) (w : World) : internal_strconv_formatBase10_l1 e w =
 (vl (e 4) w).bind fun r1 =>
 (bo P .geq 3 (.tmp 19) (.const (.int .i64 8)) r1.1 (.int .i64 8) r1.2).bind fun r2 =>
 cnd r2.1 (
 (vl (e 1) r2.2).bind fun r3 =>
 (bo P .rem 71 (.tmp 21) (.const (.int .u64 100000000)) r3.1 (.int .u64 100000000) r3.2).bind fun r4 =>
 (cv P 71 83 r4.1 r4.2).bind fun r5 =>
 (vl r5.1 r5.2).bind fun r6 =>
 (vl (e 1) r6.2).bind fun r7 =>
 (bo P .quo 71 (.tmp 24) (.const (.int .u64 100000000)) r7.1 (.int .u64 100000000) r7.2).bind fun r8 =>
 (vl r8.1 r8.2).bind fun r9 =>
 (vl r6.1 r9.2).bind fun r10 =>
 (bo P .quo 83 (.tmp 26) (.const (.int .u32 10000)) r10.1 (.int .u32 10000) r10.2).bind fun r11 =>
 (vl r6.1 r11.2).bind fun r12 =>
 (bo P .rem 83 (.tmp 28) (.const (.int .u32 10000)) r12.1 (.int .u32 10000) r12.2).bind fun r13 =>
 (vl r11.1 r13.2).bind fun r14 =>
 (vl r13.1 r14.2).bind fun r15 =>
 (vl r15.1 r15.2).bind fun r16 =>
 (bo P .quo 83 (.tmp 30) (.const (.int .u32 100)) r16.1 (.int .u32 100) r16.2).bind fun r17 =>
 (bo P .mul 83 (.tmp 31) (.const (.int .u32 2)) r17.1 (.int .u32 2) r17.2).bind fun r18 =>
 (vl r15.1 r18.2).bind fun r19 =>
 (bo P .rem 83 (.tmp 33) (.const (.int .u32 100)) r19.1 (.int .u32 100) r19.2).bind fun r20 =>
 (bo P .mul 83 (.tmp 34) (.const (.int .u32 2)) r20.1 (.int .u32 2) r20.2).bind fun r21 =>
 (vl r18.1 r21.2).bind fun r22 =>
 (vl r21.1 r22.2).bind fun r23 =>
 (vl r14.1 r23.2).bind fun r24 =>
 (bo P .quo 83 (.tmp 36) (.const (.int .u32 100)) r24.1 (.int .u32 100) r24.2).bind fun r25 =>
 (bo P .mul 83 (.tmp 37) (.const (.int .u32 2)) r25.1 (.int .u32 2) r25.2).bind fun r26 =>
 (vl r14.1 r26.2).bind fun r27 =>
 (bo P .rem 83 (.tmp 39) (.const (.int .u32 100)) r27.1 (.int .u32 100) r27.2).bind fun r28 =>
 (bo P .mul 83 (.tmp 40) (.const (.int .u32 2)) r28.1 (.int .u32 2) r28.2).bind fun r29 =>
 (vl r26.1 r29.2).bind fun r30 =>
 (vl r29.1 r30.2).bind fun r31 =>
 (vl (e 0) (dw r31.2)).bind fun r33 =>
 ifP (r33.2 = (dw r31.2)) <|
 (vl (e 4) (dw r31.2)).bind fun r34 =>
 ifP (r34.2 = (dw r31.2)) <|
 (bo P .sub 3 (.tmp 43) (.const (.int .i64 1)) r34.1 (.int .i64 1) (dw r31.2)).bind fun r35 =>
 ifP (r35.2 = (dw r31.2)) <|
 (vl (e 0) (dw r31.2)).bind fun r36 =>
 ifP (r36.2 = (dw r31.2)) <|
 (vl (e 4) (dw r31.2)).bind fun r37 =>
 ifP (r37.2 = (dw r31.2)) <|
 (bo P .sub 3 (.tmp 46) (.const (.int .i64 2)) r37.1 (.int .i64 2) (dw r31.2)).bind fun r38 =>
 ifP (r38.2 = (dw r31.2)) <|
 (vl r23.1 (dw r31.2)).bind fun r39 =>
 ifP (r39.2 = (dw r31.2)) <|
 (bo P .add 83 (.tmp 48) (.const (.int .u32 1)) r39.1 (.int .u32 1) (dw r31.2)).bind fun r40 =>
 ifP (r40.2 = (dw r31.2)) <|
 (ix P 9 (Go.Value.string { data := #[48, 48, 48, 49, 48, 50, 48, 51, 48, 52, 48, 53, 48, 54, 48, 55, 48, 56, 48, 57, 49, 48, 49, 49, 49, 50, 49, 51, 49, 52, 49, 53, 49, 54, 49, 55, 49, 56, 49, 57, 50, 48, 50, 49, 50, 50, 50, 51, 50, 52, 50, 53, 50, 54, 50, 55, 50, 56, 50, 57, 51, 48, 51, 49, 51, 50, 51, 51, 51, 52, 51, 53, 51, 54, 51, 55, 51, 56, 51, 57, 52, 48, 52, 49, 52, 50, 52, 51, 52, 52, 52, 53, 52, 54, 52, 55, 52, 56, 52, 57, 53, 48, 53, 49, 53, 50, 53, 51, 53, 52, 53, 53, 53, 54, 53, 55, 53, 56, 53, 57, 54, 48, 54, 49, 54, 50, 54, 51, 54, 52, 54, 53, 54, 54, 54, 55, 54, 56, 54, 57, 55, 48, 55, 49, 55, 50, 55, 51, 55, 52, 55, 53, 55, 54, 55, 55, 55, 56, 55, 57, 56, 48, 56, 49, 56, 50, 56, 51, 56, 52, 56, 53, 56, 54, 56, 55, 56, 56, 56, 57, 57, 48, 57, 49, 57, 50, 57, 51, 57, 52, 57, 53, 57, 54, 57, 55, 57, 56, 57, 57] }) r40.1 (dw r31.2)).bind fun r41 =>
 ifP (r41.2 = (dw r31.2)) <|
 (vl r23.1 (dw r31.2)).bind fun r42 =>
 ifP (r42.2 = (dw r31.2)) <|
 (ix P 9 (Go.Value.string { data := #[48, 48, 48, 49, 48, 50, 48, 51, 48, 52, 48, 53, 48, 54, 48, 55, 48, 56, 48, 57, 49, 48, 49, 49, 49, 50, 49, 51, 49, 52, 49, 53, 49, 54, 49, 55, 49, 56, 49, 57, 50, 48, 50, 49, 50, 50, 50, 51, 50, 52, 50, 53, 50, 54, 50, 55, 50, 56, 50, 57, 51, 48, 51, 49, 51, 50, 51, 51, 51, 52, 51, 53, 51, 54, 51, 55, 51, 56, 51, 57, 52, 48, 52, 49, 52, 50, 52, 51, 52, 52, 52, 53, 52, 54, 52, 55, 52, 56, 52, 57, 53, 48, 53, 49, 53, 50, 53, 51, 53, 52, 53, 53, 53, 54, 53, 55, 53, 56, 53, 57, 54, 48, 54, 49, 54, 50, 54, 51, 54, 52, 54, 53, 54, 54, 54, 55, 54, 56, 54, 57, 55, 48, 55, 49, 55, 50, 55, 51, 55, 52, 55, 53, 55, 54, 55, 55, 55, 56, 55, 57, 56, 48, 56, 49, 56, 50, 56, 51, 56, 52, 56, 53, 56, 54, 56, 55, 56, 56, 56, 57, 57, 48, 57, 49, 57, 50, 57, 51, 57, 52, 57, 53, 57, 54, 57, 55, 57, 56, 57, 57] }) r42.1 (dw r31.2)).bind fun r43 =>
 ifP (r43.2 = (dw r31.2)) <|
 (ia P 32 r33.1 r35.1 (dw r31.2)).bind fun r44 =>
 ifP (r44.2 = (dw r31.2)) <|
 (st P 5 r44.1 r41.1 (dw r31.2)).bind fun r45 =>
 ifP (True ∧ ix P 9 (Go.Value.string { data := #[48, 48, 48, 49, 48, 50, 48, 51, 48, 52, 48, 53, 48, 54, 48, 55, 48, 56, 48, 57, 49, 48, 49, 49, 49, 50, 49, 51, 49, 52, 49, 53, 49, 54, 49, 55, 49, 56, 49, 57, 50, 48, 50, 49, 50, 50, 50, 51, 50, 52, 50, 53, 50, 54, 50, 55, 50, 56, 50, 57, 51, 48, 51, 49, 51, 50, 51, 51, 51, 52, 51, 53, 51, 54, 51, 55, 51, 56, 51, 57, 52, 48, 52, 49, 52, 50, 52, 51, 52, 52, 52, 53, 52, 54, 52, 55, 52, 56, 52, 57, 53, 48, 53, 49, 53, 50, 53, 51, 53, 52, 53, 53, 53, 54, 53, 55, 53, 56, 53, 57, 54, 48, 54, 49, 54, 50, 54, 51, 54, 52, 54, 53, 54, 54, 54, 55, 54, 56, 54, 57, 55, 48, 55, 49, 55, 50, 55, 51, 55, 52, 55, 53, 55, 54, 55, 55, 55, 56, 55, 57, 56, 48, 56, 49, 56, 50, 56, 51, 56, 52, 56, 53, 56, 54, 56, 55, 56, 56, 56, 57, 57, 48, 57, 49, 57, 50, 57, 51, 57, 52, 57, 53, 57, 54, 57, 55, 57, 56, 57, 57] }) r42.1 r45.2 = some (r43.1, r45.2) ∧ True ∧ True ∧ bo P .sub 3 (.tmp 46) (.const (.int .i64 2)) r37.1 (.int .i64 2) r45.2 = some (r38.1, r45.2) ∧ True ∧ True) <|
 (ia P 32 r36.1 r38.1 r45.2).bind fun r46 =>
 ifP (r46.2 = r45.2) <|
 (st P 5 r46.1 r43.1 r45.2).bind fun r47 =>
 ifP (True ∧ True ∧ True ∧ True ∧ True ∧ True ∧ True ∧ True) <|
 (vl (e 0) (dw r47.2)).bind fun r49 =>
 ifP (r49.2 = (dw r47.2)) <|
 (vl (e 4) (dw r47.2)).bind fun r50 =>
 ifP (r50.2 = (dw r47.2)) <|
 (bo P .sub 3 (.tmp 56) (.const (.int .i64 3)) r50.1 (.int .i64 3) (dw r47.2)).bind fun r51 =>
 ifP (r51.2 = (dw r47.2)) <|
 (vl (e 0) (dw r47.2)).bind fun r52 =>
 ifP (r52.2 = (dw r47.2)) <|
 (vl (e 4) (dw r47.2)).bind fun r53 =>
 ifP (r53.2 = (dw r47.2)) <|
 (bo P .sub 3 (.tmp 59) (.const (.int .i64 4)) r53.1 (.int .i64 4) (dw r47.2)).bind fun r54 =>
 ifP (r54.2 = (dw r47.2)) <|
 (vl r22.1 (dw r47.2)).bind fun r55 =>
 ifP (r55.2 = (dw r47.2)) <|
 (bo P .add 83 (.tmp 61) (.const (.int .u32 1)) r55.1 (.int .u32 1) (dw r47.2)).bind fun r56 =>
 ifP (r56.2 = (dw r47.2)) <|
 (ix P 9 (Go.Value.string { data := #[48, 48, 48, 49, 48, 50, 48, 51, 48, 52, 48, 53, 48, 54, 48, 55, 48, 56, 48, 57, 49, 48, 49, 49, 49, 50, 49, 51, 49, 52, 49, 53, 49, 54, 49, 55, 49, 56, 49, 57, 50, 48, 50, 49, 50, 50, 50, 51, 50, 52, 50, 53, 50, 54, 50, 55, 50, 56, 50, 57, 51, 48, 51, 49, 51, 50, 51, 51, 51, 52, 51, 53, 51, 54, 51, 55, 51, 56, 51, 57, 52, 48, 52, 49, 52, 50, 52, 51, 52, 52, 52, 53, 52, 54, 52, 55, 52, 56, 52, 57, 53, 48, 53, 49, 53, 50, 53, 51, 53, 52, 53, 53, 53, 54, 53, 55, 53, 56, 53, 57, 54, 48, 54, 49, 54, 50, 54, 51, 54, 52, 54, 53, 54, 54, 54, 55, 54, 56, 54, 57, 55, 48, 55, 49, 55, 50, 55, 51, 55, 52, 55, 53, 55, 54, 55, 55, 55, 56, 55, 57, 56, 48, 56, 49, 56, 50, 56, 51, 56, 52, 56, 53, 56, 54, 56, 55, 56, 56, 56, 57, 57, 48, 57, 49, 57, 50, 57, 51, 57, 52, 57, 53, 57, 54, 57, 55, 57, 56, 57, 57] }) r56.1 (dw r47.2)).bind fun r57 =>
 ifP (r57.2 = (dw r47.2)) <|
 (vl r22.1 (dw r47.2)).bind fun r58 =>
 ifP (r58.2 = (dw r47.2)) <|
 (ix P 9 (Go.Value.string { data := #[48, 48, 48, 49, 48, 50, 48, 51, 48, 52, 48, 53, 48, 54, 48, 55, 48, 56, 48, 57, 49, 48, 49, 49, 49, 50, 49, 51, 49, 52, 49, 53, 49, 54, 49, 55, 49, 56, 49, 57, 50, 48, 50, 49, 50, 50, 50, 51, 50, 52, 50, 53, 50, 54, 50, 55, 50, 56, 50, 57, 51, 48, 51, 49, 51, 50, 51, 51, 51, 52, 51, 53, 51, 54, 51, 55, 51, 56, 51, 57, 52, 48, 52, 49, 52, 50, 52, 51, 52, 52, 52, 53, 52, 54, 52, 55, 52, 56, 52, 57, 53, 48, 53, 49, 53, 50, 53, 51, 53, 52, 53, 53, 53, 54, 53, 55, 53, 56, 53, 57, 54, 48, 54, 49, 54, 50, 54, 51, 54, 52, 54, 53, 54, 54, 54, 55, 54, 56, 54, 57, 55, 48, 55, 49, 55, 50, 55, 51, 55, 52, 55, 53, 55, 54, 55, 55, 55, 56, 55, 57, 56, 48, 56, 49, 56, 50, 56, 51, 56, 52, 56, 53, 56, 54, 56, 55, 56, 56, 56, 57, 57, 48, 57, 49, 57, 50, 57, 51, 57, 52, 57, 53, 57, 54, 57, 55, 57, 56, 57, 57] }) r58.1 (dw r47.2)).bind fun r59 =>
 ifP (r59.2 = (dw r47.2)) <|
 (ia P 32 r49.1 r51.1 (dw r47.2)).bind fun r60 =>
 ifP (r60.2 = (dw r47.2)) <|
 (st P 5 r60.1 r57.1 (dw r47.2)).bind fun r61 =>
 ifP (True ∧ ix P 9 (Go.Value.string { data := #[48, 48, 48, 49, 48, 50, 48, 51, 48, 52, 48, 53, 48, 54, 48, 55, 48, 56, 48, 57, 49, 48, 49, 49, 49, 50, 49, 51, 49, 52, 49, 53, 49, 54, 49, 55, 49, 56, 49, 57, 50, 48, 50, 49, 50, 50, 50, 51, 50, 52, 50, 53, 50, 54, 50, 55, 50, 56, 50, 57, 51, 48, 51, 49, 51, 50, 51, 51, 51, 52, 51, 53, 51, 54, 51, 55, 51, 56, 51, 57, 52, 48, 52, 49, 52, 50, 52, 51, 52, 52, 52, 53, 52, 54, 52, 55, 52, 56, 52, 57, 53, 48, 53, 49, 53, 50, 53, 51, 53, 52, 53, 53, 53, 54, 53, 55, 53, 56, 53, 57, 54, 48, 54, 49, 54, 50, 54, 51, 54, 52, 54, 53, 54, 54, 54, 55, 54, 56, 54, 57, 55, 48, 55, 49, 55, 50, 55, 51, 55, 52, 55, 53, 55, 54, 55, 55, 55, 56, 55, 57, 56, 48, 56, 49, 56, 50, 56, 51, 56, 52, 56, 53, 56, 54, 56, 55, 56, 56, 56, 57, 57, 48, 57, 49, 57, 50, 57, 51, 57, 52, 57, 53, 57, 54, 57, 55, 57, 56, 57, 57] }) r58.1 r61.2 = some (r59.1, r61.2) ∧ True ∧ True ∧ bo P .sub 3 (.tmp 59) (.const (.int .i64 4)) r53.1 (.int .i64 4) r61.2 = some (r54.1, r61.2) ∧ True ∧ True) <|
 (ia P 32 r52.1 r54.1 r61.2).bind fun r62 =>
 ifP (r62.2 = r61.2) <|
 (st P 5 r62.1 r59.1 r61.2).bind fun r63 =>
 ifP (True ∧ True ∧ True ∧ True ∧ True ∧ True ∧ True ∧ True) <|
 (vl (e 0) (dw r63.2)).bind fun r65 =>
 ifP (r65.2 = (dw r63.2)) <|
 (vl (e 4) (dw r63.2)).bind fun r66 =>
 ifP (r66.2 = (dw r63.2)) <|
 (bo P .sub 3 (.tmp 69) (.const (.int .i64 5)) r66.1 (.int .i64 5) (dw r63.2)).bind fun r67 =>
 ifP (r67.2 = (dw r63.2)) <|
 (vl (e 0) (dw r63.2)).bind fun r68 =>
 ifP (r68.2 = (dw r63.2)) <|
 (vl (e 4) (dw r63.2)).bind fun r69 =>
 ifP (r69.2 = (dw r63.2)) <|
 (bo P .sub 3 (.tmp 72) (.const (.int .i64 6)) r69.1 (.int .i64 6) (dw r63.2)).bind fun r70 =>
 ifP (r70.2 = (dw r63.2)) <|
 (vl r31.1 (dw r63.2)).bind fun r71 =>
 ifP (r71.2 = (dw r63.2)) <|
 (bo P .add 83 (.tmp 74) (.const (.int .u32 1)) r71.1 (.int .u32 1) (dw r63.2)).bind fun r72 =>
 ifP (r72.2 = (dw r63.2)) <|
 (ix P 9 (Go.Value.string { data := #[48, 48, 48, 49, 48, 50, 48, 51, 48, 52, 48, 53, 48, 54, 48, 55, 48, 56, 48, 57, 49, 48, 49, 49, 49, 50, 49, 51, 49, 52, 49, 53, 49, 54, 49, 55, 49, 56, 49, 57, 50, 48, 50, 49, 50, 50, 50, 51, 50, 52, 50, 53, 50, 54, 50, 55, 50, 56, 50, 57, 51, 48, 51, 49, 51, 50, 51, 51, 51, 52, 51, 53, 51, 54, 51, 55, 51, 56, 51, 57, 52, 48, 52, 49, 52, 50, 52, 51, 52, 52, 52, 53, 52, 54, 52, 55, 52, 56, 52, 57, 53, 48, 53, 49, 53, 50, 53, 51, 53, 52, 53, 53, 53, 54, 53, 55, 53, 56, 53, 57, 54, 48, 54, 49, 54, 50, 54, 51, 54, 52, 54, 53, 54, 54, 54, 55, 54, 56, 54, 57, 55, 48, 55, 49, 55, 50, 55, 51, 55, 52, 55, 53, 55, 54, 55, 55, 55, 56, 55, 57, 56, 48, 56, 49, 56, 50, 56, 51, 56, 52, 56, 53, 56, 54, 56, 55, 56, 56, 56, 57, 57, 48, 57, 49, 57, 50, 57, 51, 57, 52, 57, 53, 57, 54, 57, 55, 57, 56, 57, 57] }) r72.1 (dw r63.2)).bind fun r73 =>
 ifP (r73.2 = (dw r63.2)) <|
 (vl r31.1 (dw r63.2)).bind fun r74 =>
 ifP (r74.2 = (dw r63.2)) <|
 (ix P 9 (Go.Value.string { data := #[48, 48, 48, 49, 48, 50, 48, 51, 48, 52, 48, 53, 48, 54, 48, 55, 48, 56, 48, 57, 49, 48, 49, 49, 49, 50, 49, 51, 49, 52, 49, 53, 49, 54, 49, 55, 49, 56, 49, 57, 50, 48, 50, 49, 50, 50, 50, 51, 50, 52, 50, 53, 50, 54, 50, 55, 50, 56, 50, 57, 51, 48, 51, 49, 51, 50, 51, 51, 51, 52, 51, 53, 51, 54, 51, 55, 51, 56, 51, 57, 52, 48, 52, 49, 52, 50, 52, 51, 52, 52, 52, 53, 52, 54, 52, 55, 52, 56, 52, 57, 53, 48, 53, 49, 53, 50, 53, 51, 53, 52, 53, 53, 53, 54, 53, 55, 53, 56, 53, 57, 54, 48, 54, 49, 54, 50, 54, 51, 54, 52, 54, 53, 54, 54, 54, 55, 54, 56, 54, 57, 55, 48, 55, 49, 55, 50, 55, 51, 55, 52, 55, 53, 55, 54, 55, 55, 55, 56, 55, 57, 56, 48, 56, 49, 56, 50, 56, 51, 56, 52, 56, 53, 56, 54, 56, 55, 56, 56, 56, 57, 57, 48, 57, 49, 57, 50, 57, 51, 57, 52, 57, 53, 57, 54, 57, 55, 57, 56, 57, 57] }) r74.1 (dw r63.2)).bind fun r75 =>
 ifP (r75.2 = (dw r63.2)) <|
 (ia P 32 r65.1 r67.1 (dw r63.2)).bind fun r76 =>
 ifP (r76.2 = (dw r63.2)) <|
 (st P 5 r76.1 r73.1 (dw r63.2)).bind fun r77 =>
 ifP (True ∧ ix P 9 (Go.Value.string { data := #[48, 48, 48, 49, 48, 50, 48, 51, 48, 52, 48, 53, 48, 54, 48, 55, 48, 56, 48, 57, 49, 48, 49, 49, 49, 50, 49, 51, 49, 52, 49, 53, 49, 54, 49, 55, 49, 56, 49, 57, 50, 48, 50, 49, 50, 50, 50, 51, 50, 52, 50, 53, 50, 54, 50, 55, 50, 56, 50, 57, 51, 48, 51, 49, 51, 50, 51, 51, 51, 52, 51, 53, 51, 54, 51, 55, 51, 56, 51, 57, 52, 48, 52, 49, 52, 50, 52, 51, 52, 52, 52, 53, 52, 54, 52, 55, 52, 56, 52, 57, 53, 48, 53, 49, 53, 50, 53, 51, 53, 52, 53, 53, 53, 54, 53, 55, 53, 56, 53, 57, 54, 48, 54, 49, 54, 50, 54, 51, 54, 52, 54, 53, 54, 54, 54, 55, 54, 56, 54, 57, 55, 48, 55, 49, 55, 50, 55, 51, 55, 52, 55, 53, 55, 54, 55, 55, 55, 56, 55, 57, 56, 48, 56, 49, 56, 50, 56, 51, 56, 52, 56, 53, 56, 54, 56, 55, 56, 56, 56, 57, 57, 48, 57, 49, 57, 50, 57, 51, 57, 52, 57, 53, 57, 54, 57, 55, 57, 56, 57, 57] }) r74.1 r77.2 = some (r75.1, r77.2) ∧ True ∧ True ∧ bo P .sub 3 (.tmp 72) (.const (.int .i64 6)) r69.1 (.int .i64 6) r77.2 = some (r70.1, r77.2) ∧ True ∧ True) <|
 (ia P 32 r68.1 r70.1 r77.2).bind fun r78 =>
 ifP (r78.2 = r77.2) <|
 (st P 5 r78.1 r75.1 r77.2).bind fun r79 =>
 ifP (True ∧ True ∧ True ∧ True ∧ True ∧ True ∧ True ∧ True) <|
 (vl (e 0) (dw r79.2)).bind fun r81 =>
 ifP (r81.2 = (dw r79.2)) <|
 (vl (e 4) (dw r79.2)).bind fun r82 =>
 ifP (r82.2 = (dw r79.2)) <|
 (bo P .sub 3 (.tmp 82) (.const (.int .i64 7)) r82.1 (.int .i64 7) (dw r79.2)).bind fun r83 =>
 ifP (r83.2 = (dw r79.2)) <|
 (vl (e 0) (dw r79.2)).bind fun r84 =>
 ifP (r84.2 = (dw r79.2)) <|
 (vl (e 4) (dw r79.2)).bind fun r85 =>
 ifP (r85.2 = (dw r79.2)) <|
 (bo P .sub 3 (.tmp 85) (.const (.int .i64 8)) r85.1 (.int .i64 8) (dw r79.2)).bind fun r86 =>
 ifP (r86.2 = (dw r79.2)) <|
 (vl r30.1 (dw r79.2)).bind fun r87 =>
 ifP (r87.2 = (dw r79.2)) <|
 (bo P .add 83 (.tmp 87) (.const (.int .u32 1)) r87.1 (.int .u32 1) (dw r79.2)).bind fun r88 =>
 ifP (r88.2 = (dw r79.2)) <|
 (ix P 9 (Go.Value.string { data := #[48, 48, 48, 49, 48, 50, 48, 51, 48, 52, 48, 53, 48, 54, 48, 55, 48, 56, 48, 57, 49, 48, 49, 49, 49, 50, 49, 51, 49, 52, 49, 53, 49, 54, 49, 55, 49, 56, 49, 57, 50, 48, 50, 49, 50, 50, 50, 51, 50, 52, 50, 53, 50, 54, 50, 55, 50, 56, 50, 57, 51, 48, 51, 49, 51, 50, 51, 51, 51, 52, 51, 53, 51, 54, 51, 55, 51, 56, 51, 57, 52, 48, 52, 49, 52, 50, 52, 51, 52, 52, 52, 53, 52, 54, 52, 55, 52, 56, 52, 57, 53, 48, 53, 49, 53, 50, 53, 51, 53, 52, 53, 53, 53, 54, 53, 55, 53, 56, 53, 57, 54, 48, 54, 49, 54, 50, 54, 51, 54, 52, 54, 53, 54, 54, 54, 55, 54, 56, 54, 57, 55, 48, 55, 49, 55, 50, 55, 51, 55, 52, 55, 53, 55, 54, 55, 55, 55, 56, 55, 57, 56, 48, 56, 49, 56, 50, 56, 51, 56, 52, 56, 53, 56, 54, 56, 55, 56, 56, 56, 57, 57, 48, 57, 49, 57, 50, 57, 51, 57, 52, 57, 53, 57, 54, 57, 55, 57, 56, 57, 57] }) r88.1 (dw r79.2)).bind fun r89 =>
 ifP (r89.2 = (dw r79.2)) <|
 (vl r30.1 (dw r79.2)).bind fun r90 =>
 ifP (r90.2 = (dw r79.2)) <|
 (ix P 9 (Go.Value.string { data := #[48, 48, 48, 49, 48, 50, 48, 51, 48, 52, 48, 53, 48, 54, 48, 55, 48, 56, 48, 57, 49, 48, 49, 49, 49, 50, 49, 51, 49, 52, 49, 53, 49, 54, 49, 55, 49, 56, 49, 57, 50, 48, 50, 49, 50, 50, 50, 51, 50, 52, 50, 53, 50, 54, 50, 55, 50, 56, 50, 57, 51, 48, 51, 49, 51, 50, 51, 51, 51, 52, 51, 53, 51, 54, 51, 55, 51, 56, 51, 57, 52, 48, 52, 49, 52, 50, 52, 51, 52, 52, 52, 53, 52, 54, 52, 55, 52, 56, 52, 57, 53, 48, 53, 49, 53, 50, 53, 51, 53, 52, 53, 53, 53, 54, 53, 55, 53, 56, 53, 57, 54, 48, 54, 49, 54, 50, 54, 51, 54, 52, 54, 53, 54, 54, 54, 55, 54, 56, 54, 57, 55, 48, 55, 49, 55, 50, 55, 51, 55, 52, 55, 53, 55, 54, 55, 55, 55, 56, 55, 57, 56, 48, 56, 49, 56, 50, 56, 51, 56, 52, 56, 53, 56, 54, 56, 55, 56, 56, 56, 57, 57, 48, 57, 49, 57, 50, 57, 51, 57, 52, 57, 53, 57, 54, 57, 55, 57, 56, 57, 57] }) r90.1 (dw r79.2)).bind fun r91 =>
 ifP (r91.2 = (dw r79.2)) <|
 (ia P 32 r81.1 r83.1 (dw r79.2)).bind fun r92 =>
 ifP (r92.2 = (dw r79.2)) <|
 (st P 5 r92.1 r89.1 (dw r79.2)).bind fun r93 =>
 ifP (True ∧ ix P 9 (Go.Value.string { data := #[48, 48, 48, 49, 48, 50, 48, 51, 48, 52, 48, 53, 48, 54, 48, 55, 48, 56, 48, 57, 49, 48, 49, 49, 49, 50, 49, 51, 49, 52, 49, 53, 49, 54, 49, 55, 49, 56, 49, 57, 50, 48, 50, 49, 50, 50, 50, 51, 50, 52, 50, 53, 50, 54, 50, 55, 50, 56, 50, 57, 51, 48, 51, 49, 51, 50, 51, 51, 51, 52, 51, 53, 51, 54, 51, 55, 51, 56, 51, 57, 52, 48, 52, 49, 52, 50, 52, 51, 52, 52, 52, 53, 52, 54, 52, 55, 52, 56, 52, 57, 53, 48, 53, 49, 53, 50, 53, 51, 53, 52, 53, 53, 53, 54, 53, 55, 53, 56, 53, 57, 54, 48, 54, 49, 54, 50, 54, 51, 54, 52, 54, 53, 54, 54, 54, 55, 54, 56, 54, 57, 55, 48, 55, 49, 55, 50, 55, 51, 55, 52, 55, 53, 55, 54, 55, 55, 55, 56, 55, 57, 56, 48, 56, 49, 56, 50, 56, 51, 56, 52, 56, 53, 56, 54, 56, 55, 56, 56, 56, 57, 57, 48, 57, 49, 57, 50, 57, 51, 57, 52, 57, 53, 57, 54, 57, 55, 57, 56, 57, 57] }) r90.1 r93.2 = some (r91.1, r93.2) ∧ True ∧ True ∧ bo P .sub 3 (.tmp 85) (.const (.int .i64 8)) r85.1 (.int .i64 8) r93.2 = some (r86.1, r93.2) ∧ True ∧ True) <|
 (ia P 32 r84.1 r86.1 r93.2).bind fun r94 =>
 ifP (r94.2 = r93.2) <|
 (st P 5 r94.1 r91.1 r93.2).bind fun r95 =>
 ifP (True ∧ True ∧ True ∧ True ∧ True ∧ True ∧ True ∧ True) <|
 (vl (e 4) r95.2).bind fun r96 =>
 (bo P .sub 3 (.tmp 94) (.const (.int .i64 8)) r96.1 (.int .i64 8) r96.2).bind fun r97 =>
 (vl r97.1 r97.2).bind fun r98 =>
 internal_strconv_formatBase10_l1 (ups e [(19, r1.1), (20, r2.1), (21, r3.1), (22, r4.1), (23, r5.1), (5, r6.1), (24, r7.1), (25, r8.1), (1, r9.1), (26, r10.1), (27, r11.1), (28, r12.1), (29, r13.1), (6, r14.1), (7, r15.1), (30, r16.1), (31, r17.1), (32, r18.1), (33, r19.1), (34, r20.1), (35, r21.1), (8, r22.1), (9, r23.1), (36, r24.1), (37, r25.1), (38, r26.1), (39, r27.1), (40, r28.1), (41, r29.1), (10, r30.1), (11, r31.1), (42, r33.1), (43, r34.1), (44, r35.1), (45, r36.1), (46, r37.1), (47, r38.1), (48, r39.1), (49, r40.1), (50, r41.1), (51, r42.1), (52, r43.1), (53, r44.1), (54, r46.1), (55, r49.1), (56, r50.1), (57, r51.1), (58, r52.1), (59, r53.1), (60, r54.1), (61, r55.1), (62, r56.1), (63, r57.1), (64, r58.1), (65, r59.1), (66, r60.1), (67, r62.1), (68, r65.1), (69, r66.1), (70, r67.1), (71, r68.1), (72, r69.1), (73, r70.1), (74, r71.1), (75, r72.1), (76, r73.1), (77, r74.1), (78, r75.1), (79, r76.1), (80, r78.1), (81, r81.1), (82, r82.1), (83, r83.1), (84, r84.1), (85, r85.1), (86, r86.1), (87, r87.1), (88, r88.1), (89, r89.1), (90, r90.1), (91, r91.1), (92, r92.1), (93, r94.1), (94, r96.1), (95, r97.1), (4, r98.1)]) r98.2) (
 (vl (e 1) r2.2).bind fun r99 =>
 (cv P 71 83 r99.1 r99.2).bind fun r100 =>
 (vl r100.1 r100.2).bind fun r101 =>
 (vl (e 4) r101.2).bind fun r102 =>
 (bo P .geq 3 (.tmp 98) (.const (.int .i64 4)) r102.1 (.int .i64 4) r102.2).bind fun r103 =>
 cnd r103.1 (
 (vl r101.1 r103.2).bind fun r104 =>
 (bo P .rem 83 (.tmp 100) (.const (.int .u32 10000)) r104.1 (.int .u32 10000) r104.2).bind fun r105 =>
 (vl r105.1 r105.2).bind fun r106 =>
 (vl r101.1 r106.2).bind fun r107 =>
 (bo P .quo 83 (.tmp 102) (.const (.int .u32 10000)) r107.1 (.int .u32 10000) r107.2).bind fun r108 =>
 (vl r108.1 r108.2).bind fun r109 =>
 (vl r106.1 r109.2).bind fun r110 =>
 (bo P .quo 83 (.tmp 104) (.const (.int .u32 100)) r110.1 (.int .u32 100) r110.2).bind fun r111 =>
 (bo P .mul 83 (.tmp 105) (.const (.int .u32 2)) r111.1 (.int .u32 2) r111.2).bind fun r112 =>
 (vl r106.1 r112.2).bind fun r113 =>
 (bo P .rem 83 (.tmp 107) (.const (.int .u32 100)) r113.1 (.int .u32 100) r113.2).bind fun r114 =>
 (bo P .mul 83 (.tmp 108) (.const (.int .u32 2)) r114.1 (.int .u32 2) r114.2).bind fun r115 =>
 (vl r112.1 r115.2).bind fun r116 =>
 (vl r115.1 r116.2).bind fun r117 =>
 (vl (e 0) (dw r117.2)).bind fun r119 =>
 ifP (r119.2 = (dw r117.2)) <|
 (vl (e 4) (dw r117.2)).bind fun r120 =>
 ifP (r120.2 = (dw r117.2)) <|
 (bo P .sub 3 (.tmp 111) (.const (.int .i64 1)) r120.1 (.int .i64 1) (dw r117.2)).bind fun r121 =>
 ifP (r121.2 = (dw r117.2)) <|
 (vl (e 0) (dw r117.2)).bind fun r122 =>
 ifP (r122.2 = (dw r117.2)) <|
 (vl (e 4) (dw r117.2)).bind fun r123 =>
 ifP (r123.2 = (dw r117.2)) <|
 (bo P .sub 3 (.tmp 114) (.const (.int .i64 2)) r123.1 (.int .i64 2) (dw r117.2)).bind fun r124 =>
 ifP (r124.2 = (dw r117.2)) <|
 (vl r117.1 (dw r117.2)).bind fun r125 =>
 ifP (r125.2 = (dw r117.2)) <|
 (bo P .add 83 (.tmp 116) (.const (.int .u32 1)) r125.1 (.int .u32 1) (dw r117.2)).bind fun r126 =>
 ifP (r126.2 = (dw r117.2)) <|
 (ix P 9 (Go.Value.string { data := #[48, 48, 48, 49, 48, 50, 48, 51, 48, 52, 48, 53, 48, 54, 48, 55, 48, 56, 48, 57, 49, 48, 49, 49, 49, 50, 49, 51, 49, 52, 49, 53, 49, 54, 49, 55, 49, 56, 49, 57, 50, 48, 50, 49, 50, 50, 50, 51, 50, 52, 50, 53, 50, 54, 50, 55, 50, 56, 50, 57, 51, 48, 51, 49, 51, 50, 51, 51, 51, 52, 51, 53, 51, 54, 51, 55, 51, 56, 51, 57, 52, 48, 52, 49, 52, 50, 52, 51, 52, 52, 52, 53, 52, 54, 52, 55, 52, 56, 52, 57, 53, 48, 53, 49, 53, 50, 53, 51, 53, 52, 53, 53, 53, 54, 53, 55, 53, 56, 53, 57, 54, 48, 54, 49, 54, 50, 54, 51, 54, 52, 54, 53, 54, 54, 54, 55, 54, 56, 54, 57, 55, 48, 55, 49, 55, 50, 55, 51, 55, 52, 55, 53, 55, 54, 55, 55, 55, 56, 55, 57, 56, 48, 56, 49, 56, 50, 56, 51, 56, 52, 56, 53, 56, 54, 56, 55, 56, 56, 56, 57, 57, 48, 57, 49, 57, 50, 57, 51, 57, 52, 57, 53, 57, 54, 57, 55, 57, 56, 57, 57] }) r126.1 (dw r117.2)).bind fun r127 =>
 ifP (r127.2 = (dw r117.2)) <|
 (vl r117.1 (dw r117.2)).bind fun r128 =>
 ifP (r128.2 = (dw r117.2)) <|
 (ix P 9 (Go.Value.string { data := #[48, 48, 48, 49, 48, 50, 48, 51, 48, 52, 48, 53, 48, 54, 48, 55, 48, 56, 48, 57, 49, 48, 49, 49, 49, 50, 49, 51, 49, 52, 49, 53, 49, 54, 49, 55, 49, 56, 49, 57, 50, 48, 50, 49, 50, 50, 50, 51, 50, 52, 50, 53, 50, 54, 50, 55, 50, 56, 50, 57, 51, 48, 51, 49, 51, 50, 51, 51, 51, 52, 51, 53, 51, 54, 51, 55, 51, 56, 51, 57, 52, 48, 52, 49, 52, 50, 52, 51, 52, 52, 52, 53, 52, 54, 52, 55, 52, 56, 52, 57, 53, 48, 53, 49, 53, 50, 53, 51, 53, 52, 53, 53, 53, 54, 53, 55, 53, 56, 53, 57, 54, 48, 54, 49, 54, 50, 54, 51, 54, 52, 54, 53, 54, 54, 54, 55, 54, 56, 54, 57, 55, 48, 55, 49, 55, 50, 55, 51, 55, 52, 55, 53, 55, 54, 55, 55, 55, 56, 55, 57, 56, 48, 56, 49, 56, 50, 56, 51, 56, 52, 56, 53, 56, 54, 56, 55, 56, 56, 56, 57, 57, 48, 57, 49, 57, 50, 57, 51, 57, 52, 57, 53, 57, 54, 57, 55, 57, 56, 57, 57] }) r128.1 (dw r117.2)).bind fun r129 =>
 ifP (r129.2 = (dw r117.2)) <|
 (ia P 32 r119.1 r121.1 (dw r117.2)).bind fun r130 =>
 ifP (r130.2 = (dw r117.2)) <|
 (st P 5 r130.1 r127.1 (dw r117.2)).bind fun r131 =>
 ifP (True ∧ ix P 9 (Go.Value.string { data := #[48, 48, 48, 49, 48, 50, 48, 51, 48, 52, 48, 53, 48, 54, 48, 55, 48, 56, 48, 57, 49, 48, 49, 49, 49, 50, 49, 51, 49, 52, 49, 53, 49, 54, 49, 55, 49, 56, 49, 57, 50, 48, 50, 49, 50, 50, 50, 51, 50, 52, 50, 53, 50, 54, 50, 55, 50, 56, 50, 57, 51, 48, 51, 49, 51, 50, 51, 51, 51, 52, 51, 53, 51, 54, 51, 55, 51, 56, 51, 57, 52, 48, 52, 49, 52, 50, 52, 51, 52, 52, 52, 53, 52, 54, 52, 55, 52, 56, 52, 57, 53, 48, 53, 49, 53, 50, 53, 51, 53, 52, 53, 53, 53, 54, 53, 55, 53, 56, 53, 57, 54, 48, 54, 49, 54, 50, 54, 51, 54, 52, 54, 53, 54, 54, 54, 55, 54, 56, 54, 57, 55, 48, 55, 49, 55, 50, 55, 51, 55, 52, 55, 53, 55, 54, 55, 55, 55, 56, 55, 57, 56, 48, 56, 49, 56, 50, 56, 51, 56, 52, 56, 53, 56, 54, 56, 55, 56, 56, 56, 57, 57, 48, 57, 49, 57, 50, 57, 51, 57, 52, 57, 53, 57, 54, 57, 55, 57, 56, 57, 57] }) r128.1 r131.2 = some (r129.1, r131.2) ∧ True ∧ True ∧ bo P .sub 3 (.tmp 114) (.const (.int .i64 2)) r123.1 (.int .i64 2) r131.2 = some (r124.1, r131.2) ∧ True ∧ True) <|
 (ia P 32 r122.1 r124.1 r131.2).bind fun r132 =>
 ifP (r132.2 = r131.2) <|
 (st P 5 r132.1 r129.1 r131.2).bind fun r133 =>
 ifP (True ∧ True ∧ True ∧ True ∧ True ∧ True ∧ True ∧ True) <|
 (vl (e 0) (dw r133.2)).bind fun r135 =>
 ifP (r135.2 = (dw r133.2)) <|
 (vl (e 4) (dw r133.2)).bind fun r136 =>
 ifP (r136.2 = (dw r133.2)) <|
 (bo P .sub 3 (.tmp 124) (.const (.int .i64 3)) r136.1 (.int .i64 3) (dw r133.2)).bind fun r137 =>
 ifP (r137.2 = (dw r133.2)) <|
 (vl (e 0) (dw r133.2)).bind fun r138 =>
 ifP (r138.2 = (dw r133.2)) <|
 (vl (e 4) (dw r133.2)).bind fun r139 =>
 ifP (r139.2 = (dw r133.2)) <|
 (bo P .sub 3 (.tmp 127) (.const (.int .i64 4)) r139.1 (.int .i64 4) (dw r133.2)).bind fun r140 =>
 ifP (r140.2 = (dw r133.2)) <|
 (vl r116.1 (dw r133.2)).bind fun r141 =>
 ifP (r141.2 = (dw r133.2)) <|
 (bo P .add 83 (.tmp 129) (.const (.int .u32 1)) r141.1 (.int .u32 1) (dw r133.2)).bind fun r142 =>
 ifP (r142.2 = (dw r133.2)) <|
 (ix P 9 (Go.Value.string { data := #[48, 48, 48, 49, 48, 50, 48, 51, 48, 52, 48, 53, 48, 54, 48, 55, 48, 56, 48, 57, 49, 48, 49, 49, 49, 50, 49, 51, 49, 52, 49, 53, 49, 54, 49, 55, 49, 56, 49, 57, 50, 48, 50, 49, 50, 50, 50, 51, 50, 52, 50, 53, 50, 54, 50, 55, 50, 56, 50, 57, 51, 48, 51, 49, 51, 50, 51, 51, 51, 52, 51, 53, 51, 54, 51, 55, 51, 56, 51, 57, 52, 48, 52, 49, 52, 50, 52, 51, 52, 52, 52, 53, 52, 54, 52, 55, 52, 56, 52, 57, 53, 48, 53, 49, 53, 50, 53, 51, 53, 52, 53, 53, 53, 54, 53, 55, 53, 56, 53, 57, 54, 48, 54, 49, 54, 50, 54, 51, 54, 52, 54, 53, 54, 54, 54, 55, 54, 56, 54, 57, 55, 48, 55, 49, 55, 50, 55, 51, 55, 52, 55, 53, 55, 54, 55, 55, 55, 56, 55, 57, 56, 48, 56, 49, 56, 50, 56, 51, 56, 52, 56, 53, 56, 54, 56, 55, 56, 56, 56, 57, 57, 48, 57, 49, 57, 50, 57, 51, 57, 52, 57, 53, 57, 54, 57, 55, 57, 56, 57, 57] }) r142.1 (dw r133.2)).bind fun r143 =>
 ifP (r143.2 = (dw r133.2)) <|
 (vl r116.1 (dw r133.2)).bind fun r144 =>
 ifP (r144.2 = (dw r133.2)) <|
 (ix P 9 (Go.Value.string { data := #[48, 48, 48, 49, 48, 50, 48, 51, 48, 52, 48, 53, 48, 54, 48, 55, 48, 56, 48, 57, 49, 48, 49, 49, 49, 50, 49, 51, 49, 52, 49, 53, 49, 54, 49, 55, 49, 56, 49, 57, 50, 48, 50, 49, 50, 50, 50, 51, 50, 52, 50, 53, 50, 54, 50, 55, 50, 56, 50, 57, 51, 48, 51, 49, 51, 50, 51, 51, 51, 52, 51, 53, 51, 54, 51, 55, 51, 56, 51, 57, 52, 48, 52, 49, 52, 50, 52, 51, 52, 52, 52, 53, 52, 54, 52, 55, 52, 56, 52, 57, 53, 48, 53, 49, 53, 50, 53, 51, 53, 52, 53, 53, 53, 54, 53, 55, 53, 56, 53, 57, 54, 48, 54, 49, 54, 50, 54, 51, 54, 52, 54, 53, 54, 54, 54, 55, 54, 56, 54, 57, 55, 48, 55, 49, 55, 50, 55, 51, 55, 52, 55, 53, 55, 54, 55, 55, 55, 56, 55, 57, 56, 48, 56, 49, 56, 50, 56, 51, 56, 52, 56, 53, 56, 54, 56, 55, 56, 56, 56, 57, 57, 48, 57, 49, 57, 50, 57, 51, 57, 52, 57, 53, 57, 54, 57, 55, 57, 56, 57, 57] }) r144.1 (dw r133.2)).bind fun r145 =>
 ifP (r145.2 = (dw r133.2)) <|
 (ia P 32 r135.1 r137.1 (dw r133.2)).bind fun r146 =>
 ifP (r146.2 = (dw r133.2)) <|
 (st P 5 r146.1 r143.1 (dw r133.2)).bind fun r147 =>
 ifP (True ∧ ix P 9 (Go.Value.string { data := #[48, 48, 48, 49, 48, 50, 48, 51, 48, 52, 48, 53, 48, 54, 48, 55, 48, 56, 48, 57, 49, 48, 49, 49, 49, 50, 49, 51, 49, 52, 49, 53, 49, 54, 49, 55, 49, 56, 49, 57, 50, 48, 50, 49, 50, 50, 50, 51, 50, 52, 50, 53, 50, 54, 50, 55, 50, 56, 50, 57, 51, 48, 51, 49, 51, 50, 51, 51, 51, 52, 51, 53, 51, 54, 51, 55, 51, 56, 51, 57, 52, 48, 52, 49, 52, 50, 52, 51, 52, 52, 52, 53, 52, 54, 52, 55, 52, 56, 52, 57, 53, 48, 53, 49, 53, 50, 53, 51, 53, 52, 53, 53, 53, 54, 53, 55, 53, 56, 53, 57, 54, 48, 54, 49, 54, 50, 54, 51, 54, 52, 54, 53, 54, 54, 54, 55, 54, 56, 54, 57, 55, 48, 55, 49, 55, 50, 55, 51, 55, 52, 55, 53, 55, 54, 55, 55, 55, 56, 55, 57, 56, 48, 56, 49, 56, 50, 56, 51, 56, 52, 56, 53, 56, 54, 56, 55, 56, 56, 56, 57, 57, 48, 57, 49, 57, 50, 57, 51, 57, 52, 57, 53, 57, 54, 57, 55, 57, 56, 57, 57] }) r144.1 r147.2 = some (r145.1, r147.2) ∧ True ∧ True ∧ bo P .sub 3 (.tmp 127) (.const (.int .i64 4)) r139.1 (.int .i64 4) r147.2 = some (r140.1, r147.2) ∧ True ∧ True) <|
 (ia P 32 r138.1 r140.1 r147.2).bind fun r148 =>
 ifP (r148.2 = r147.2) <|
 (st P 5 r148.1 r145.1 r147.2).bind fun r149 =>
 ifP (True ∧ True ∧ True ∧ True ∧ True ∧ True ∧ True ∧ True) <|
 (vl (e 4) r149.2).bind fun r150 =>
 (bo P .sub 3 (.tmp 136) (.const (.int .i64 4)) r150.1 (.int .i64 4) r150.2).bind fun r151 =>
 (vl r151.1 r151.2).bind fun r152 =>
 internal_strconv_formatBase10_j1 (ups e [(19, r1.1), (20, r2.1), (96, r99.1), (97, r100.1), (12, r101.1), (98, r102.1), (99, r103.1), (100, r104.1), (101, r105.1), (13, r106.1), (102, r107.1), (103, r108.1), (12, r109.1), (104, r110.1), (105, r111.1), (106, r112.1), (107, r113.1), (108, r114.1), (109, r115.1), (14, r116.1), (15, r117.1), (110, r119.1), (111, r120.1), (112, r121.1), (113, r122.1), (114, r123.1), (115, r124.1), (116, r125.1), (117, r126.1), (118, r127.1), (119, r128.1), (120, r129.1), (121, r130.1), (122, r132.1), (123, r135.1), (124, r136.1), (125, r137.1), (126, r138.1), (127, r139.1), (128, r140.1), (129, r141.1), (130, r142.1), (131, r143.1), (132, r144.1), (133, r145.1), (134, r146.1), (135, r148.1), (136, r150.1), (137, r151.1), (4, r152.1)]) r152.2) (
 internal_strconv_formatBase10_j1 (ups e [(19, r1.1), (20, r2.1), (96, r99.1), (97, r100.1), (12, r101.1), (98, r102.1), (99, r103.1)]) r103.2)) := (exC_loop P (EV P) 56 167 (cA (cA (cA (cB (bodyOf P 56))))) e w (kBlock 0 (kSeq P (EV P) 56 167 (cB (cB (bodyOf P 56))) (kFn P (fnOf P 56))))).trans (by kernel_rfl)
theorem internal_strconv_formatBase10_j1_eq (e : Env) (w : World) : internal_strconv_formatBase10_j1 e w =
 (vl (e 4) w).bind fun r1 =>
 (bo P .geq 3 (.tmp 138) (.const (.int .i64 2)) r1.1 (.int .i64 2) r1.2).bind fun r2 =>
 cnd r2.1 (
 (vl (e 12) r2.2).bind fun r3 =>
 (bo P .rem 83 (.tmp 140) (.const (.int .u32 100)) r3.1 (.int .u32 100) r3.2).bind fun r4 =>
 (bo P .mul 83 (.tmp 141) (.const (.int .u32 2)) r4.1 (.int .u32 2) r4.2).bind fun r5 =>
 (vl r5.1 r5.2).bind fun r6 =>
 (vl (e 12) r6.2).bind fun r7 =>
 (bo P .quo 83 (.tmp 143) (.const (.int .u32 100)) r7.1 (.int .u32 100) r7.2).bind fun r8 =>
 (vl r8.1 r8.2).bind fun r9 =>
 (vl (e 0) (dw r9.2)).bind fun r11 =>
 ifP (r11.2 = (dw r9.2)) <|
 (vl (e 4) (dw r9.2)).bind fun r12 =>
 ifP (r12.2 = (dw r9.2)) <|
 (bo P .sub 3 (.tmp 146) (.const (.int .i64 1)) r12.1 (.int .i64 1) (dw r9.2)).bind fun r13 =>
 ifP (r13.2 = (dw r9.2)) <|
 (vl (e 0) (dw r9.2)).bind fun r14 =>
 ifP (r14.2 = (dw r9.2)) <|
 (vl (e 4) (dw r9.2)).bind fun r15 =>
 ifP (r15.2 = (dw r9.2)) <|
 (bo P .sub 3 (.tmp 149) (.const (.int .i64 2)) r15.1 (.int .i64 2) (dw r9.2)).bind fun r16 =>
 ifP (r16.2 = (dw r9.2)) <|
 (vl r6.1 (dw r9.2)).bind fun r17 =>
 ifP (r17.2 = (dw r9.2)) <|
 (bo P .add 83 (.tmp 151) (.const (.int .u32 1)) r17.1 (.int .u32 1) (dw r9.2)).bind fun r18 =>
 ifP (r18.2 = (dw r9.2)) <|
 (ix P 9 (Go.Value.string { data := #[48, 48, 48, 49, 48, 50, 48, 51, 48, 52, 48, 53, 48, 54, 48, 55, 48, 56, 48, 57, 49, 48, 49, 49, 49, 50, 49, 51, 49, 52, 49, 53, 49, 54, 49, 55, 49, 56, 49, 57, 50, 48, 50, 49, 50, 50, 50, 51, 50, 52, 50, 53, 50, 54, 50, 55, 50, 56, 50, 57, 51, 48, 51, 49, 51, 50, 51, 51, 51, 52, 51, 53, 51, 54, 51, 55, 51, 56, 51, 57, 52, 48, 52, 49, 52, 50, 52, 51, 52, 52, 52, 53, 52, 54, 52, 55, 52, 56, 52, 57, 53, 48, 53, 49, 53, 50, 53, 51, 53, 52, 53, 53, 53, 54, 53, 55, 53, 56, 53, 57, 54, 48, 54, 49, 54, 50, 54, 51, 54, 52, 54, 53, 54, 54, 54, 55, 54, 56, 54, 57, 55, 48, 55, 49, 55, 50, 55, 51, 55, 52, 55, 53, 55, 54, 55, 55, 55, 56, 55, 57, 56, 48, 56, 49, 56, 50, 56, 51, 56, 52, 56, 53, 56, 54, 56, 55, 56, 56, 56, 57, 57, 48, 57, 49, 57, 50, 57, 51, 57, 52, 57, 53, 57, 54, 57, 55, 57, 56, 57, 57] }) r18.1 (dw r9.2)).bind fun r19 =>
 ifP (r19.2 = (dw r9.2)) <|
 (vl r6.1 (dw r9.2)).bind fun r20 =>
 ifP (r20.2 = (dw r9.2)) <|
 (ix P 9 (Go.Value.string { data := #[48, 48, 48, 49, 48, 50, 48, 51, 48, 52, 48, 53, 48, 54, 48, 55, 48, 56, 48, 57, 49, 48, 49, 49, 49, 50, 49, 51, 49, 52, 49, 53, 49, 54, 49, 55, 49, 56, 49, 57, 50, 48, 50, 49, 50, 50, 50, 51, 50, 52, 50, 53, 50, 54, 50, 55, 50, 56, 50, 57, 51, 48, 51, 49, 51, 50, 51, 51, 51, 52, 51, 53, 51, 54, 51, 55, 51, 56, 51, 57, 52, 48, 52, 49, 52, 50, 52, 51, 52, 52, 52, 53, 52, 54, 52, 55, 52, 56, 52, 57, 53, 48, 53, 49, 53, 50, 53, 51, 53, 52, 53, 53, 53, 54, 53, 55, 53, 56, 53, 57, 54, 48, 54, 49, 54, 50, 54, 51, 54, 52, 54, 53, 54, 54, 54, 55, 54, 56, 54, 57, 55, 48, 55, 49, 55, 50, 55, 51, 55, 52, 55, 53, 55, 54, 55, 55, 55, 56, 55, 57, 56, 48, 56, 49, 56, 50, 56, 51, 56, 52, 56, 53, 56, 54, 56, 55, 56, 56, 56, 57, 57, 48, 57, 49, 57, 50, 57, 51, 57, 52, 57, 53, 57, 54, 57, 55, 57, 56, 57, 57] }) r20.1 (dw r9.2)).bind fun r21 =>
 ifP (r21.2 = (dw r9.2)) <|
 (ia P 32 r11.1 r13.1 (dw r9.2)).bind fun r22 =>
 ifP (r22.2 = (dw r9.2)) <|
 (st P 5 r22.1 r19.1 (dw r9.2)).bind fun r23 =>
 ifP (True ∧ ix P 9 (Go.Value.string { data := #[48, 48, 48, 49, 48, 50, 48, 51, 48, 52, 48, 53, 48, 54, 48, 55, 48, 56, 48, 57, 49, 48, 49, 49, 49, 50, 49, 51, 49, 52, 49, 53, 49, 54, 49, 55, 49, 56, 49, 57, 50, 48, 50, 49, 50, 50, 50, 51, 50, 52, 50, 53, 50, 54, 50, 55, 50, 56, 50, 57, 51, 48, 51, 49, 51, 50, 51, 51, 51, 52, 51, 53, 51, 54, 51, 55, 51, 56, 51, 57, 52, 48, 52, 49, 52, 50, 52, 51, 52, 52, 52, 53, 52, 54, 52, 55, 52, 56, 52, 57, 53, 48, 53, 49, 53, 50, 53, 51, 53, 52, 53, 53, 53, 54, 53, 55, 53, 56, 53, 57, 54, 48, 54, 49, 54, 50, 54, 51, 54, 52, 54, 53, 54, 54, 54, 55, 54, 56, 54, 57, 55, 48, 55, 49, 55, 50, 55, 51, 55, 52, 55, 53, 55, 54, 55, 55, 55, 56, 55, 57, 56, 48, 56, 49, 56, 50, 56, 51, 56, 52, 56, 53, 56, 54, 56, 55, 56, 56, 56, 57, 57, 48, 57, 49, 57, 50, 57, 51, 57, 52, 57, 53, 57, 54, 57, 55, 57, 56, 57, 57] }) r20.1 r23.2 = some (r21.1, r23.2) ∧ True ∧ True ∧ bo P .sub 3 (.tmp 149) (.const (.int .i64 2)) r15.1 (.int .i64 2) r23.2 = some (r16.1, r23.2) ∧ True ∧ True) <|
 (ia P 32 r14.1 r16.1 r23.2).bind fun r24 =>
 ifP (r24.2 = r23.2) <|
 (st P 5 r24.1 r21.1 r23.2).bind fun r25 =>
 ifP (True ∧ True ∧ True ∧ True ∧ True ∧ True ∧ True ∧ True) <|
 (vl (e 4) r25.2).bind fun r26 =>
 (bo P .sub 3 (.tmp 158) (.const (.int .i64 2)) r26.1 (.int .i64 2) r26.2).bind fun r27 =>
 (vl r27.1 r27.2).bind fun r28 =>
 internal_strconv_formatBase10_j2 (ups e [(138, r1.1), (139, r2.1), (140, r3.1), (141, r4.1), (142, r5.1), (16, r6.1), (143, r7.1), (144, r8.1), (12, r9.1), (145, r11.1), (146, r12.1), (147, r13.1), (148, r14.1), (149, r15.1), (150, r16.1), (151, r17.1), (152, r18.1), (153, r19.1), (154, r20.1), (155, r21.1), (156, r22.1), (157, r24.1), (158, r26.1), (159, r27.1), (4, r28.1)]) r28.2) (
 internal_strconv_formatBase10_j2 (ups e [(138, r1.1), (139, r2.1)]) r2.2) := by kernel_rfl
theorem internal_strconv_formatBase10_j2_eq (e : Env) (w : World) : internal_strconv_formatBase10_j2 e w =
 (vl (e 4) w).bind fun r1 =>
 (bo P .gtr 3 (.tmp 160) (.const (.int .i64 0)) r1.1 (.int .i64 0) r1.2).bind fun r2 =>
 cnd r2.1 (
 (vl (e 0) r2.2).bind fun r3 =>
 (vl (e 12) r3.2).bind fun r4 =>
 (bo P .add 83 (.const (.int .u32 48)) (.tmp 163) (.int .u32 48) r4.1 r4.2).bind fun r5 =>
 (cv P 83 5 r5.1 r5.2).bind fun r6 =>
 (ia P 32 r3.1 (.int .i64 0) r6.2).bind fun r7 =>
 (st P 5 r7.1 r6.1 r7.2).bind fun r8 =>
 some (.tuple #[], r8.2)) (
 some (.tuple #[], r2.2)) := by kernel_rfl
theorem internal_strconv_formatBase10_fn (x0 x1 : Value) (w : World) : fnC P (EV P) 56 #[x0, x1] w =
 (vl x0 w).bind fun r1 =>
 (b_len P #[32] 3 #[r1.1] r1.2).bind fun r2 =>
 (vl r2.1 r2.2).bind fun r3 =>
 internal_strconv_formatBase10_l1 (ups (env0 #[x0, x1]) [(17, r1.1), (18, r2.1), (4, r3.1)]) r3.2 := by kernel_rfl
theorem internal_strconv_lower_fn (x0 : Value) (w : World) : fnC P (EV P) 60 #[x0] w =
 (vl (.int .u8 0) w).bind fun r1 =>
 (vl x0 r1.2).bind fun r2 =>
 (bo P .or 5 (.tmp 3) (.const (.int .u8 32)) r2.1 (.int .u8 32) r2.2).bind fun r3 =>
 (vl r3.1 r3.2).bind fun r4 =>
 some (r4.1, r4.2) := by kernel_rfl
end Go.Proofs.YtobejpplmjfkpaaDoor.X
