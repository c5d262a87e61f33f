/- A part of the proof of the theorem yieldNone_card. -/
import Derived.KernelRfl
import Derived.Test.YtjjogojaemahkaaGreatDoorFlat
import Derived.Test.YtjjogojaemahkaaGreatDoorCodeA
import Derived.Test.YtjjogojaemahkaaGreatDoorCodeB
section
set_option linter.unusedVariables false
namespace Go.Ev.Code
open Go Go.Ev
set_option maxRecDepth 100000
def s_plan_Of_b1 (O : Orc) (base : Nat) (t1 t6 t7 t8 t9 t27 t28 t29 : D) (m : Mem) : Option (Ex × List D × Mem) :=
 bd (rBinI .lss [t29, t28] m) fun r1 =>
 dCond r1.1
 (bd (rIadr 1 [t27, t29] r1.2) fun r2 =>
 bd (rLoad1 [r2.1] r2.2) fun r3 =>
 bd (rBuild [.int .i64 0, .int .i64 0] [(0, 1), (1, 1)] [t9, r3.1] (r3.2 ++ [.free])) fun r5 =>
 bd (rBsl 1 [.int .i64 0, .int .i64 0] [(0, 2)] [r5.1] r5.2) fun r6 =>
 bd (rApp (List.length r3.2) 0 2 [t8, r6.1] r6.2) fun r7 =>
 bd (rBinI .add [t29, .int .i64 1] r7.2) fun r8 =>
 bd (gc base [t1, t6, t7, r7.1, r3.1, t27, t28, r8.1] r8.2) fun r9 => O.loop [1, 6, 7, 8, 9, 27, 28, 29] [1, 6, 7, 8] plan_Of_b1 base r9.1 r9.2)
 (bd (gc base [t1, t6, t7, t8] r1.2) fun r10 => some ((.exit 0), r10.1, r10.2))
theorem S_plan_Of_b1 (O : Orc) (base : Nat) (t1 t6 t7 t8 t9 t27 t28 t29 : D) (m : Mem) : loopStep2 O [1, 6, 7, 8, 9, 27, 28, 29] [1, 6, 7, 8] plan_Of_b1 base [t1, t6, t7, t8, t9, t27, t28, t29] m = s_plan_Of_b1 O base t1 t6 t7 t8 t9 t27 t28 t29 m := by kernel_rfl
def s_plan_Of (O : Orc) (t0 : D) (m : Mem) : RV :=
 bd (rBox (List.length m) 0 [t0] (m ++ [.free])) fun r2 =>
 bd (rLoadA 9 [r2.1] r2.2) fun r3 =>
 bd (rCallc O bond_Check [r3.1] r3.2) fun r4 =>
 bd (rEqN true true [r4.1, .nili] r4.2) fun r5 =>
 dCond r5.1
 (bd (gc (List.length m) [(.nils), r4.1] r5.2) fun r6 => some (tupD r6))
 (bd (rLoadA 9 [r2.1] r5.2) fun r7 =>
 bd (O.calla plan_anchors [r7.1] r7.2) fun r8 =>
 bd (rExt 0 [r8.1] r8.2) fun r9 =>
 bd (rExt 1 [r8.1] r9.2) fun r10 =>
 bd (rExt 2 [r8.1] r10.2) fun r11 =>
 bd (O.calla slices_Reverse_int [r9.1] r11.2) fun r12 =>
 bd (rFadr 0 [r2.1] r12.2) fun r13 =>
 bd (rLoad1 [r13.1] r13.2) fun r14 =>
 bd (rLenL [r9.1] r14.2) fun r15 =>
 jn (O.loop [1, 6, 7, 8, 9, 27, 28, 29] [1, 6, 7, 8] plan_Of_b1 (List.length r15.2) [r2.1, r10.1, r11.1, (.nils), r14.1, r9.1, r15.1, (.int .i64 0)] r15.2) fun r16 =>
 exM (blkX 0 r16.1)
 (bd (gop (wantsD (hd (tl (tl r16.2.1))) true) (rMov [(hd (tl r16.2.1))] r16.2.2) r16.2.2) fun r18 =>
 bd (gop (wantsD (hd (tl (tl r16.2.1))) true) (rFadr 0 [(hd r16.2.1)] r18.2) r18.2) fun r19 =>
 bd (gop (wantsD (hd (tl (tl r16.2.1))) true) (rLoad1 [r19.1] r19.2) r19.2) fun r20 =>
 bd (gop (wantsD (hd (tl (tl r16.2.1))) true) (rBinI .eql [r18.1, r20.1] r20.2) r20.2) fun r21 =>
 bd (rPick [(hd (tl (tl r16.2.1))), r21.1, .bool false] r21.2) fun r22 =>
 dCond r22.1
 (bd (gc (List.length m) [(hd (tl (tl (tl r16.2.1)))), (.nili)] r22.2) fun r23 => some (tupD r23))
 (jn (bd (rFadr 6 [(hd r16.2.1)] r22.2) fun r24 =>
 bd (rLoad1 [r24.1] r24.2) fun r25 =>
 bd (rBinI .eql [r25.1, .int .i64 0] r25.2) fun r26 =>
 jn (dCond r26.1
 (bd (rCallc O fault_New [.int .i64 5, .str [115, 116, 117, 98]] r26.2) fun r27 =>
 some (.ret, [(.nils), r27.1, (hd (tl (tl (tl r16.2.1))))], r27.2))
 (bd (rFadr 6 [(hd r16.2.1)] r26.2) fun r28 =>
 bd (rLoad1 [r28.1] r28.2) fun r29 =>
 bd (rBinI .eql [r29.1, .int .i64 2] r29.2) fun r30 =>
 bd (gop (wantsD r30.1 true) (rMov [(hd (tl (tl (tl r16.2.1))))] r30.2) r30.2) fun r31 =>
 bd (gop (wantsD r30.1 true) (rLenL [r31.1] r31.2) r31.2) fun r32 =>
 bd (gop (wantsD r30.1 true) (rBinI .gtr [r32.1, .int .i64 1] r32.2) r32.2) fun r33 =>
 bd (rPick [r30.1, r33.1, .bool false] r33.2) fun r34 =>
 jn (dCond r34.1
 (bd (rFadr 0 [(hd r16.2.1)] r34.2) fun r35 =>
 bd (rLoad1 [r35.1] r35.2) fun r36 =>
 bd (rIadr 2 [(hd (tl (tl (tl r16.2.1)))), .int .i64 1] r36.2) fun r37 =>
 bd (rFadr 0 [r37.1] r37.2) fun r38 =>
 bd (rStore 1 [r38.1, r36.1] r38.2) fun r39 =>
 bd (rSlL 2 true false [(hd (tl (tl (tl r16.2.1)))), .int .i64 1] r39.2) fun r40 =>
 some (.normal, [r40.1], r40.2))
 (some (.normal, [(hd (tl (tl (tl r16.2.1))))], r34.2))) fun r41 =>
 some (r41.1, [.undef, .undef, (hd r41.2.1)], r41.2.2))) fun r42 =>
 some ((blkX 2 r42.1), [(hd r42.2.1), (hd (tl r42.2.1)), (hd (tl (tl r42.2.1)))], r42.2.2)) fun r43 =>
 exM r43.1
 (bd (gc (List.length m) [(hd (tl (tl r43.2.1))), (.nili)] r43.2.2) fun r45 => some (tupD r45))
 (fun i44 => none)
 (bd (gc (List.length m) [(hd r43.2.1), (hd (tl r43.2.1))] r43.2.2) fun r46 => some (tupD r46))))
 (fun i17 => none)
 (none))
theorem S_plan_Of (O : Orc) (t0 : D) (m : Mem) : f_plan_Of.step2 O [t0] m = s_plan_Of O t0 m := by kernel_rfl
def s_bond_Check (O : Orc) (t0 : D) (m : Mem) : RV :=
 bd (rBox (List.length m) 0 [t0] (m ++ [.free])) fun r2 =>
 bd (rLoadA 9 [r2.1] r2.2) fun r3 =>
 bd (rCallc O bond_days [r3.1] r3.2) fun r4 =>
 bd (rEqN true true [r4.1, .nili] r4.2) fun r5 =>
 dCond r5.1
 (bd (gc (List.length m) [r4.1] r5.2) fun r6 => some (tupD r6))
 (bd (rLoadA 9 [r2.1] r5.2) fun r7 =>
 bd (rCallc O bond_Months [r7.1] r7.2) fun r8 =>
 bd (rBinI .eql [r8.1, .int .i64 0] r8.2) fun r9 =>
 dCond r9.1
 (bd (rCallc O fault_New [.int .i64 5, .str [102, 114, 101, 113]] r9.2) fun r10 =>
 bd (gc (List.length m) [r10.1] r10.2) fun r11 => some (tupD r11))
 (bd (rLoadA 9 [r2.1] r9.2) fun r12 =>
 bd (rCallc O bond_sums [r12.1] r12.2) fun r13 =>
 bd (rEqN true true [r13.1, .nili] r13.2) fun r14 =>
 dCond r14.1
 (bd (gc (List.length m) [r13.1] r14.2) fun r15 => some (tupD r15))
 (bd (rFadr 5 [r2.1] r14.2) fun r16 =>
 bd (rLoad1 [r16.1] r16.2) fun r17 =>
 bd (rCallc O count_May [r17.1] r17.2) fun r18 =>
 bd (rNot [r18.1] r18.2) fun r19 =>
 dCond r19.1
 (bd (rCallc O fault_New [.int .i64 5, .str [99, 111, 117, 110, 116]] r19.2) fun r20 =>
 bd (gc (List.length m) [r20.1] r20.2) fun r21 => some (tupD r21))
 (bd (rFadr 6 [r2.1] r19.2) fun r22 =>
 bd (rLoad1 [r22.1] r22.2) fun r23 =>
 bd (rBinI .lss [r23.1, .int .i64 0] r23.2) fun r24 =>
 bd (gop (wantsD r24.1 false) (rFadr 6 [r2.1] r24.2) r24.2) fun r25 =>
 bd (gop (wantsD r24.1 false) (rLoad1 [r25.1] r25.2) r25.2) fun r26 =>
 bd (gop (wantsD r24.1 false) (rBinI .gtr [r26.1, .int .i64 2] r26.2) r26.2) fun r27 =>
 bd (rPick [r24.1, .bool true, r27.1] r27.2) fun r28 =>
 dCond r28.1
 (bd (rCallc O fault_New [.int .i64 5, .str [115, 116, 117, 98]] r28.2) fun r29 =>
 bd (gc (List.length m) [r29.1] r29.2) fun r30 => some (tupD r30))
 (bd (rFadr 8 [r2.1] r28.2) fun r31 =>
 bd (rLoad1 [r31.1] r31.2) fun r32 =>
 bd (rBinI .lss [r32.1, .int .i64 0] r32.2) fun r33 =>
 bd (gop (wantsD r33.1 false) (rFadr 8 [r2.1] r33.2) r33.2) fun r34 =>
 bd (gop (wantsD r33.1 false) (rLoad1 [r34.1] r34.2) r34.2) fun r35 =>
 bd (gop (wantsD r33.1 false) (rBinI .gtr [r35.1, .int .i64 30] r35.2) r35.2) fun r36 =>
 bd (rPick [r33.1, .bool true, r36.1] r36.2) fun r37 =>
 dCond r37.1
 (bd (rCallc O fault_New [.int .i64 5, .str [101, 120]] r37.2) fun r38 =>
 bd (gc (List.length m) [r38.1] r38.2) fun r39 => some (tupD r39))
 (bd (rFadr 0 [r2.1] r37.2) fun r40 =>
 bd (rLoad1 [r40.1] r40.2) fun r41 =>
 bd (rFadr 1 [r2.1] r41.2) fun r42 =>
 bd (rLoad1 [r42.1] r42.2) fun r43 =>
 bd (rCallc O month_Between [r41.1, r43.1] r43.2) fun r44 =>
 bd (rLoadA 9 [r2.1] r44.2) fun r45 =>
 bd (rCallc O bond_Months [r45.1] r45.2) fun r46 =>
 bd (rBinI .quo [r44.1, r46.1] r46.2) fun r47 =>
 bd (rBinI .add [r47.1, .int .i64 2] r47.2) fun r48 =>
 bd (rBinI .gtr [r48.1, .int .i64 200] r48.2) fun r49 =>
 dCond r49.1
 (bd (rCallc O fault_New [.int .i64 5, .str [102, 108, 111, 119, 115]] r49.2) fun r50 =>
 bd (gc (List.length m) [r50.1] r50.2) fun r51 => some (tupD r51))
 (bd (gc (List.length m) [(.nili)] r49.2) fun r52 => some (tupD r52))))))))
theorem S_bond_Check (O : Orc) (t0 : D) (m : Mem) : f_bond_Check.step2 O [t0] m = s_bond_Check O t0 m := by kernel_rfl
def s_bond_Months (O : Orc) (t0 : D) (m : Mem) : RV :=
 bd (rBox (List.length m) 0 [t0] (m ++ [.free])) fun r2 =>
 bd (rFadr 2 [r2.1] r2.2) fun r3 =>
 bd (rLoad1 [r3.1] r3.2) fun r4 =>
 jn (bd (rBinI .eql [r4.1, .int .i64 1] r4.2) fun r5 =>
 jn (dCond r5.1
 (some (.normal, [r2.1, r5.1], r5.2))
 (bd (rBinI .eql [r4.1, .int .i64 2] r5.2) fun r6 =>
 jn (dCond r6.1
 (some (.normal, [r2.1, r6.1], r6.2))
 (bd (rBinI .eql [r4.1, .int .i64 4] r6.2) fun r7 =>
 jn (dCond r7.1
 (some (.normal, [r2.1, r7.1], r7.2))
 (bd (rBinI .eql [r4.1, .int .i64 12] r7.2) fun r8 =>
 some (.normal, [r2.1, r8.1], r8.2))) fun r9 =>
 some (r9.1, [(hd r9.2.1), (hd (tl r9.2.1))], r9.2.2))) fun r10 =>
 some (r10.1, [(hd r10.2.1), (hd (tl r10.2.1))], r10.2.2))) fun r11 =>
 exM r11.1
 (dCond (hd (tl r11.2.1))
 (bd (rFadr 2 [(hd r11.2.1)] r11.2.2) fun r13 =>
 bd (rLoad1 [r13.1] r13.2) fun r14 =>
 bd (rBinI .quo [.int .i64 12, r14.1] r14.2) fun r15 =>
 some (.ret, [r15.1], r15.2))
 (some (.normal, [.undef], r11.2.2)))
 (fun i12 => some ((blkX 0 (.exit i12)), [.undef], r11.2.2))
 (some (.ret, [.undef], r11.2.2))) fun r16 =>
 exM r16.1
 (bd (gc (List.length m) [(.int .i64 0)] r16.2.2) fun r18 => some (tupD r18))
 (fun i17 => none)
 (bd (gc (List.length m) [(hd r16.2.1)] r16.2.2) fun r19 => some (tupD r19))
theorem S_bond_Months (O : Orc) (t0 : D) (m : Mem) : f_bond_Months.step2 O [t0] m = s_bond_Months O t0 m := by kernel_rfl
def s_bond_Coupon (O : Orc) (t0 : D) (m : Mem) : RV :=
 bd (rBox (List.length m) 0 [t0] (m ++ [.free])) fun r2 =>
 bd (rLoadA 9 [r2.1] r2.2) fun r3 =>
 bd (rCallc O bond_Check [r3.1] r3.2) fun r4 =>
 bd (rEqN true true [r4.1, .nili] r4.2) fun r5 =>
 dCond r5.1
 (bd (rCallc O bond_of [.int .i64 0] r5.2) fun r6 =>
 bd (gc (List.length m) [r6.1] r6.2) fun r7 => some (tupD r7))
 (bd (rFadr 3 [r2.1] r5.2) fun r8 =>
 bd (rLoad1 [r8.1] r8.2) fun r9 =>
 bd (rCallc O bond_value [r9.1] r9.2) fun r10 =>
 bd (rExt 0 [r10.1] r10.2) fun r11 =>
 bd (rExt 1 [r10.1] r11.2) fun r12 =>
 bd (rExt 2 [r10.1] r12.2) fun r13 =>
 bd (gc (List.length m) [r11.1] r13.2) fun r14 => some (tupD r14))
theorem S_bond_Coupon (O : Orc) (t0 : D) (m : Mem) : f_bond_Coupon.step2 O [t0] m = s_bond_Coupon O t0 m := by kernel_rfl
def s_rat_Rat_Sign (O : Orc) (t0 : D) (m : Mem) : RV :=
 bd (rCallc O rat_Rat_Num [t0] m) fun r1 =>
 bd (rCallc O num_Int_Sign [r1.1] r1.2) fun r2 =>
 bd (gc (List.length m) [r2.1] r2.2) fun r3 => some (tupD r3)
theorem S_rat_Rat_Sign (O : Orc) (t0 : D) (m : Mem) : f_rat_Rat_Sign.step2 O [t0] m = s_rat_Rat_Sign O t0 m := by kernel_rfl
def s_bond_Redeem (O : Orc) (t0 : D) (m : Mem) : RV :=
 bd (rBox (List.length m) 0 [t0] (m ++ [.free])) fun r2 =>
 bd (rLoadA 9 [r2.1] r2.2) fun r3 =>
 bd (rCallc O bond_Check [r3.1] r3.2) fun r4 =>
 bd (rEqN true true [r4.1, .nili] r4.2) fun r5 =>
 dCond r5.1
 (bd (rCallc O bond_of [.int .i64 0] r5.2) fun r6 =>
 bd (gc (List.length m) [r6.1] r6.2) fun r7 => some (tupD r7))
 (bd (rFadr 4 [r2.1] r5.2) fun r8 =>
 bd (rLoad1 [r8.1] r8.2) fun r9 =>
 bd (rCallc O bond_value [r9.1] r9.2) fun r10 =>
 bd (rExt 0 [r10.1] r10.2) fun r11 =>
 bd (rExt 1 [r10.1] r11.2) fun r12 =>
 bd (rExt 2 [r10.1] r12.2) fun r13 =>
 bd (gc (List.length m) [r11.1] r13.2) fun r14 => some (tupD r14))
theorem S_bond_Redeem (O : Orc) (t0 : D) (m : Mem) : f_bond_Redeem.step2 O [t0] m = s_bond_Redeem O t0 m := by kernel_rfl
def s_rat_Rat_Sub (O : Orc) (t0 t1 : D) (m : Mem) : RV :=
 bd (rCallc O rat_Rat_Num [t1] (m ++ [.free])) fun r2 =>
 bd (rCallc O num_Int_Neg [r2.1] r2.2) fun r3 =>
 bd (rCallc O rat_Rat_Den [t1] r3.2) fun r4 =>
 bd (rBuild [.nilp, .nilp] [(0, 1), (1, 1)] [r3.1, r4.1] r4.2) fun r5 =>
 bd (rBox (List.length m) 0 [r5.1] r5.2) fun r6 =>
 bd (rCallp O rat_Rat_Add [t0, r6.1] r6.2) fun r7 =>
 bd (gc (List.length m) [r7.1] r7.2) fun r8 => some (tupD r8)
theorem S_rat_Rat_Sub (O : Orc) (t0 t1 : D) (m : Mem) : f_rat_Rat_Sub.step2 O [t0, t1] m = s_rat_Rat_Sub O t0 t1 m := by kernel_rfl
def s_rat_Rat_Add (O : Orc) (t0 t1 : D) (m : Mem) : RV :=
 bd (rCallc O rat_Rat_Den [t0] m) fun r1 =>
 bd (rCallc O rat_Rat_Den [t1] r1.2) fun r2 =>
 bd (rCallc O num_Int_Cmp [r1.1, r2.1] r2.2) fun r3 =>
 bd (rBinI .eql [r3.1, .int .i64 0] r3.2) fun r4 =>
 dCond r4.1
 (bd (rCallc O rat_Rat_Num [t0] r4.2) fun r5 =>
 bd (rCallc O rat_Rat_Num [t1] r5.2) fun r6 =>
 bd (rCallc O num_Int_Add [r5.1, r6.1] r6.2) fun r7 =>
 bd (rCallc O rat_Rat_Den [t0] r7.2) fun r8 =>
 bd (rCallc O rat_sure [r7.1, r8.1] r8.2) fun r9 =>
 bd (gc (List.length m) [r9.1] r9.2) fun r10 => some (tupD r10))
 (bd (rCallc O rat_Rat_Num [t0] r4.2) fun r11 =>
 bd (rCallc O rat_Rat_Den [t1] r11.2) fun r12 =>
 bd (rCallc O num_Int_Mul [r11.1, r12.1] r12.2) fun r13 =>
 bd (rCallc O rat_Rat_Num [t1] r13.2) fun r14 =>
 bd (rCallc O rat_Rat_Den [t0] r14.2) fun r15 =>
 bd (rCallc O num_Int_Mul [r14.1, r15.1] r15.2) fun r16 =>
 bd (rCallc O num_Int_Add [r13.1, r16.1] r16.2) fun r17 =>
 bd (rCallc O rat_Rat_Den [t0] r17.2) fun r18 =>
 bd (rCallc O rat_Rat_Den [t1] r18.2) fun r19 =>
 bd (rCallc O num_Int_Mul [r18.1, r19.1] r19.2) fun r20 =>
 bd (rCallc O rat_sure [r17.1, r20.1] r20.2) fun r21 =>
 bd (gc (List.length m) [r21.1] r21.2) fun r22 => some (tupD r22))
theorem S_rat_Rat_Add (O : Orc) (t0 t1 : D) (m : Mem) : f_rat_Rat_Add.step2 O [t0, t1] m = s_rat_Rat_Add O t0 t1 m := by kernel_rfl
def s_month_End (O : Orc) (t0 t1 : D) (m : Mem) : RV :=
 bd (rCallc O date_Length [t0, t1] m) fun r1 =>
 bd (rBuild [.int .i64 0, .int .i64 0, .int .i64 0] [(0, 1), (1, 1), (2, 1)] [t0, t1, r1.1] r1.2) fun r2 =>
 bd (rCallc O date_Of [r2.1] r2.2) fun r3 =>
 bd (rExt 0 [r3.1] r3.2) fun r4 =>
 bd (rExt 1 [r3.1] r4.2) fun r5 =>
 bd (gc (List.length m) [r4.1, r5.1] r5.2) fun r6 => some (tupD r6)
theorem S_month_End (O : Orc) (t0 t1 : D) (m : Mem) : f_month_End.step2 O [t0, t1] m = s_month_End O t0 t1 m := by kernel_rfl
def s_month_Last (O : Orc) (t0 : D) (m : Mem) : RV :=
 bd (rCallc O date_Civil [t0] (m ++ [.free])) fun r2 =>
 bd (rExt 0 [r2.1] r2.2) fun r3 =>
 bd (rExt 1 [r2.1] r3.2) fun r4 =>
 bd (rAlloc (List.length m) 0 [.int .i64 0, .int .i64 0, .int .i64 0] [] r4.2) fun r5 =>
 bd (rStore 3 [r5.1, r3.1] r5.2) fun r6 =>
 bd (rEqN false true [r4.1, .nili] r6.2) fun r7 =>
 bd (gop (wantsD r7.1 true) (rFadr 2 [r5.1] r7.2) r7.2) fun r8 =>
 bd (gop (wantsD r7.1 true) (rLoad1 [r8.1] r8.2) r8.2) fun r9 =>
 bd (gop (wantsD r7.1 true) (rFadr 0 [r5.1] r9.2) r9.2) fun r10 =>
 bd (gop (wantsD r7.1 true) (rLoad1 [r10.1] r10.2) r10.2) fun r11 =>
 bd (gop (wantsD r7.1 true) (rFadr 1 [r5.1] r11.2) r11.2) fun r12 =>
 bd (gop (wantsD r7.1 true) (rLoad1 [r12.1] r12.2) r12.2) fun r13 =>
 bd (gop (wantsD r7.1 true) (rCallc O date_Length [r11.1, r13.1] r13.2) r13.2) fun r14 =>
 bd (gop (wantsD r7.1 true) (rBinI .eql [r9.1, r14.1] r14.2) r14.2) fun r15 =>
 bd (rPick [r7.1, r15.1, .bool false] r15.2) fun r16 =>
 bd (gc (List.length m) [r16.1] r16.2) fun r17 => some (tupD r17)
theorem S_month_Last (O : Orc) (t0 : D) (m : Mem) : f_month_Last.step2 O [t0] m = s_month_Last O t0 m := by kernel_rfl
def s_month_Between (O : Orc) (t0 t1 : D) (m : Mem) : RV :=
 bd (rCallc O date_Civil [t0] (m ++ [.free])) fun r2 =>
 bd (rExt 0 [r2.1] r2.2) fun r3 =>
 bd (rExt 1 [r2.1] r3.2) fun r4 =>
 bd (rAlloc (List.length m) 0 [.int .i64 0, .int .i64 0, .int .i64 0] [] r4.2) fun r5 =>
 bd (rStore 3 [r5.1, r3.1] r5.2) fun r6 =>
 bd (rCallc O date_Civil [t1] (r6.2 ++ [.free])) fun r8 =>
 bd (rExt 0 [r8.1] r8.2) fun r9 =>
 bd (rExt 1 [r8.1] r9.2) fun r10 =>
 bd (rAlloc (List.length r6.2) 0 [.int .i64 0, .int .i64 0, .int .i64 0] [] r10.2) fun r11 =>
 bd (rStore 3 [r11.1, r9.1] r11.2) fun r12 =>
 bd (rEqN true true [r4.1, .nili] r12.2) fun r13 =>
 bd (gop (wantsD r13.1 false) (rMov [r10.1] r13.2) r13.2) fun r14 =>
 bd (gop (wantsD r13.1 false) (rEqN true true [r14.1, .nili] r14.2) r14.2) fun r15 =>
 bd (rPick [r13.1, .bool true, r15.1] r15.2) fun r16 =>
 dCond r16.1
 (bd (gc (List.length m) [(.int .i64 0)] r16.2) fun r17 => some (tupD r17))
 (bd (rFadr 0 [r11.1] r16.2) fun r18 =>
 bd (rLoad1 [r18.1] r18.2) fun r19 =>
 bd (rFadr 0 [r5.1] r19.2) fun r20 =>
 bd (rLoad1 [r20.1] r20.2) fun r21 =>
 bd (rBinI .sub [r19.1, r21.1] r21.2) fun r22 =>
 bd (rBinI .mul [r22.1, .int .i64 12] r22.2) fun r23 =>
 bd (rFadr 1 [r11.1] r23.2) fun r24 =>
 bd (rLoad1 [r24.1] r24.2) fun r25 =>
 bd (rBinI .add [r23.1, r25.1] r25.2) fun r26 =>
 bd (rFadr 1 [r5.1] r26.2) fun r27 =>
 bd (rLoad1 [r27.1] r27.2) fun r28 =>
 bd (rBinI .sub [r26.1, r28.1] r28.2) fun r29 =>
 bd (gc (List.length m) [r29.1] r29.2) fun r30 => some (tupD r30))
theorem S_month_Between (O : Orc) (t0 t1 : D) (m : Mem) : f_month_Between.step2 O [t0, t1] m = s_month_Between O t0 t1 m := by kernel_rfl
def s_plan_Regular (O : Orc) (t0 t1 : D) (m : Mem) : RV :=
 bd (rBox (List.length m) 0 [t0] (m ++ [.free, .free])) fun r2 =>
 bd (rBox (List.length m) 1 [t1] r2.2) fun r3 =>
 bd (rLoadA 9 [r2.1] r3.2) fun r4 =>
 bd (rFadr 1 [r3.1] r4.2) fun r5 =>
 bd (rLoad1 [r5.1] r5.2) fun r6 =>
 bd (rCallc O plan_Quasi [r4.1, r6.1] r6.2) fun r7 =>
 bd (rExt 0 [r7.1] r7.2) fun r8 =>
 bd (rExt 1 [r7.1] r8.2) fun r9 =>
 bd (rEqN false true [r9.1, .nili] r9.2) fun r10 =>
 bd (gop (wantsD r10.1 true) (rMov [r8.1] r10.2) r10.2) fun r11 =>
 bd (gop (wantsD r10.1 true) (rFadr 0 [r3.1] r11.2) r11.2) fun r12 =>
 bd (gop (wantsD r10.1 true) (rLoad1 [r12.1] r12.2) r12.2) fun r13 =>
 bd (gop (wantsD r10.1 true) (rBinI .eql [r11.1, r13.1] r13.2) r13.2) fun r14 =>
 bd (rPick [r10.1, r14.1, .bool false] r14.2) fun r15 =>
 bd (gc (List.length m) [r15.1] r15.2) fun r16 => some (tupD r16)
theorem S_plan_Regular (O : Orc) (t0 t1 : D) (m : Mem) : f_plan_Regular.step2 O [t0, t1] m = s_plan_Regular O t0 t1 m := by kernel_rfl
def s_rat_Of (O : Orc) (t0 t1 : D) (m : Mem) : RV :=
 bd (rCallc O num_Of [t0] m) fun r1 =>
 bd (rCallc O num_Of [t1] r1.2) fun r2 =>
 bd (rCallc O rat_New [r1.1, r2.1] r2.2) fun r3 =>
 bd (rExt 0 [r3.1] r3.2) fun r4 =>
 bd (rExt 1 [r3.1] r4.2) fun r5 =>
 bd (gc (List.length m) [r4.1, r5.1] r5.2) fun r6 => some (tupD r6)
theorem S_rat_Of (O : Orc) (t0 t1 : D) (m : Mem) : f_rat_Of.step2 O [t0, t1] m = s_rat_Of O t0 t1 m := by kernel_rfl
def s_rat_Rat_Cmp (O : Orc) (t0 t1 : D) (m : Mem) : RV :=
 bd (rCallc O rat_Rat_Num [t0] m) fun r1 =>
 bd (rCallc O rat_Rat_Den [t1] r1.2) fun r2 =>
 bd (rCallc O num_Int_Mul [r1.1, r2.1] r2.2) fun r3 =>
 bd (rCallc O rat_Rat_Num [t1] r3.2) fun r4 =>
 bd (rCallc O rat_Rat_Den [t0] r4.2) fun r5 =>
 bd (rCallc O num_Int_Mul [r4.1, r5.1] r5.2) fun r6 =>
 bd (rCallc O num_Int_Cmp [r3.1, r6.1] r6.2) fun r7 =>
 bd (gc (List.length m) [r7.1] r7.2) fun r8 => some (tupD r8)
theorem S_rat_Rat_Cmp (O : Orc) (t0 t1 : D) (m : Mem) : f_rat_Rat_Cmp.step2 O [t0, t1] m = s_rat_Rat_Cmp O t0 t1 m := by kernel_rfl
def s_rat_Rat_Mul (O : Orc) (t0 t1 : D) (m : Mem) : RV :=
 bd (rCallc O rat_Rat_Num [t0] m) fun r1 =>
 bd (rCallc O rat_Rat_Num [t1] r1.2) fun r2 =>
 bd (rCallc O num_Int_Mul [r1.1, r2.1] r2.2) fun r3 =>
 bd (rCallc O rat_Rat_Den [t0] r3.2) fun r4 =>
 bd (rCallc O rat_Rat_Den [t1] r4.2) fun r5 =>
 bd (rCallc O num_Int_Mul [r4.1, r5.1] r5.2) fun r6 =>
 bd (rCallc O rat_sure [r3.1, r6.1] r6.2) fun r7 =>
 bd (gc (List.length m) [r7.1] r7.2) fun r8 => some (tupD r8)
theorem S_rat_Rat_Mul (O : Orc) (t0 t1 : D) (m : Mem) : f_rat_Rat_Mul.step2 O [t0, t1] m = s_rat_Rat_Mul O t0 t1 m := by kernel_rfl
def s_rat_Rat_Text (O : Orc) (t0 : D) (m : Mem) : RV :=
 bd (rCallc O rat_Rat_Den [t0] m) fun r1 =>
 bd (rCallc O num_Int_Text [r1.1] r1.2) fun r2 =>
 bd (rBinS .neq [r2.1, .str [49]] r2.2) fun r3 =>
 dCond r3.1
 (bd (rCallc O rat_Rat_Num [t0] r3.2) fun r4 =>
 bd (rCallc O num_Int_Text [r4.1] r4.2) fun r5 =>
 bd (rBinS .add [r5.1, .str [47]] r5.2) fun r6 =>
 bd (rBinS .add [r6.1, r2.1] r6.2) fun r7 =>
 bd (gc (List.length m) [r7.1] r7.2) fun r8 => some (tupD r8))
 (bd (rCallc O rat_Rat_Num [t0] r3.2) fun r9 =>
 bd (rCallc O num_Int_Text [r9.1] r9.2) fun r10 =>
 bd (gc (List.length m) [r10.1] r10.2) fun r11 => some (tupD r11))
theorem S_rat_Rat_Text (O : Orc) (t0 : D) (m : Mem) : f_rat_Rat_Text.step2 O [t0] m = s_rat_Rat_Text O t0 m := by kernel_rfl
def s_plan_anchors_b1 (O : Orc) (base : Nat) (t1 t5 t6 : D) (m : Mem) : Option (Ex × List D × Mem) :=
 bd (rLoadA 9 [t1] m) fun r1 =>
 bd (rCallc O plan_anchor [r1.1, t6] r1.2) fun r2 =>
 bd (rExt 0 [r2.1] r2.2) fun r3 =>
 bd (rExt 1 [r2.1] r3.2) fun r4 =>
 bd (rNot [r4.1] r4.2) fun r5 =>
 bd (gop (wantsD r5.1 false) (rMov [r3.1] r5.2) r5.2) fun r6 =>
 bd (gop (wantsD r5.1 false) (rFadr 0 [t1] r6.2) r6.2) fun r7 =>
 bd (gop (wantsD r5.1 false) (rLoad1 [r7.1] r7.2) r7.2) fun r8 =>
 bd (gop (wantsD r5.1 false) (rBinI .leq [r6.1, r8.1] r8.2) r8.2) fun r9 =>
 bd (rPick [r5.1, .bool true, r9.1] r9.2) fun r10 =>
 dCond r10.1
 (bd (gc base [t5, r3.1, r4.1] r10.2) fun r11 => some (.ret, r11.1, r11.2))
 (bd (rBsl 1 [.int .i64 0] [(0, 1)] [r3.1] (r10.2 ++ [.free])) fun r13 =>
 bd (rApp (List.length r10.2) 0 1 [t5, r13.1] r13.2) fun r14 =>
 bd (rBinI .add [t6, .int .i64 1] r14.2) fun r15 =>
 bd (gc base [t1, r14.1, r15.1] r15.2) fun r16 => O.loop [1, 5, 6] [2, 3, 4] plan_anchors_b1 base r16.1 r16.2)
theorem S_plan_anchors_b1 (O : Orc) (base : Nat) (t1 t5 t6 : D) (m : Mem) : loopStep2 O [1, 5, 6] [2, 3, 4] plan_anchors_b1 base [t1, t5, t6] m = s_plan_anchors_b1 O base t1 t5 t6 m := by kernel_rfl
def s_plan_anchors (O : Orc) (t0 : D) (m : Mem) : RV :=
 bd (rBox (List.length m) 0 [t0] (m ++ [.free])) fun r2 =>
 jn (O.loop [1, 5, 6] [2, 3, 4] plan_anchors_b1 (List.length r2.2) [r2.1, (.nils), (.int .i64 0)] r2.2) fun r3 =>
 exM (blkX 0 r3.1)
 (bd (gc (List.length m) [(hd r3.2.1), (hd (tl r3.2.1)), (hd (tl (tl r3.2.1)))] r3.2.2) fun r5 => some (tupD r5))
 (fun i4 => none)
 (bd (gc (List.length m) [(hd r3.2.1), (hd (tl r3.2.1)), (hd (tl (tl r3.2.1)))] r3.2.2) fun r6 => some (tupD r6))
theorem S_plan_anchors (O : Orc) (t0 : D) (m : Mem) : f_plan_anchors.step2 O [t0] m = s_plan_anchors O t0 m := by kernel_rfl
def s_slices_Reverse_int_b1 (O : Orc) (base : Nat) (t0 t2 t3 : D) (m : Mem) : Option (Ex × List D × Mem) :=
 bd (rBinI .lss [t2, t3] m) fun r1 =>
 dCond r1.1
 (bd (rIadr 1 [t0, t3] r1.2) fun r2 =>
 bd (rLoad1 [r2.1] r2.2) fun r3 =>
 bd (rIadr 1 [t0, t2] r3.2) fun r4 =>
 bd (rLoad1 [r4.1] r4.2) fun r5 =>
 bd (rIadr 1 [t0, t2] r5.2) fun r6 =>
 bd (rStore 1 [r6.1, r3.1] r6.2) fun r7 =>
 bd (rIadr 1 [t0, t3] r7.2) fun r8 =>
 bd (rStore 1 [r8.1, r5.1] r8.2) fun r9 =>
 bd (rBinI .add [t2, .int .i64 1] r9.2) fun r10 =>
 bd (rBinI .sub [t3, .int .i64 1] r10.2) fun r11 =>
 bd (gc base [t0, r10.1, r11.1] r11.2) fun r12 => O.loop [0, 2, 3] [] slices_Reverse_int_b1 base r12.1 r12.2)
 (bd (gc base [] r1.2) fun r13 => some ((.exit 0), r13.1, r13.2))
theorem S_slices_Reverse_int_b1 (O : Orc) (base : Nat) (t0 t2 t3 : D) (m : Mem) : loopStep2 O [0, 2, 3] [] slices_Reverse_int_b1 base [t0, t2, t3] m = s_slices_Reverse_int_b1 O base t0 t2 t3 m := by kernel_rfl
def s_slices_Reverse_int (O : Orc) (t0 : D) (m : Mem) : RV :=
 bd (rLenL [t0] m) fun r1 =>
 bd (rBinI .sub [r1.1, .int .i64 1] r1.2) fun r2 =>
 jn (O.loop [0, 2, 3] [] slices_Reverse_int_b1 (List.length r2.2) [t0, (.int .i64 0), r2.1] r2.2) fun r3 =>
 exM (blkX 0 r3.1)
 (bd (gc (List.length m) [] r3.2.2) fun r5 => some (tupD r5))
 (fun i4 => none)
 (bd (gc (List.length m) [] r3.2.2) fun r6 => some (tupD r6))
theorem S_slices_Reverse_int (O : Orc) (t0 : D) (m : Mem) : f_slices_Reverse_int.step2 O [t0] m = s_slices_Reverse_int O t0 m := by kernel_rfl
def s_fault_New (O : Orc) (t0 t1 : D) (m : Mem) : RV :=
 bd (rBinI .eql [t0, .int .i64 0] m) fun r1 =>
 dCond r1.1
 (bd (gc (List.length m) [(.nili)] r1.2) fun r2 => some (tupD r2))
 (bd (rBuild [.int .i64 0, .str [], .nili] [(0, 1), (1, 1)] [t0, t1] (r1.2 ++ [.free])) fun r4 =>
 bd (rBox (List.length r1.2) 0 [r4.1] r4.2) fun r5 =>
 bd (rMkif ty_Fault [r5.1] r5.2) fun r6 =>
 bd (gc (List.length m) [r6.1] r6.2) fun r7 => some (tupD r7))
theorem S_fault_New (O : Orc) (t0 t1 : D) (m : Mem) : f_fault_New.step2 O [t0, t1] m = s_fault_New O t0 t1 m := by kernel_rfl
def s_fault_Of (O : Orc) (t0 : D) (m : Mem) : RV :=
 bd (rBinI .eql [t0, .int .i64 0] m) fun r1 =>
 dCond r1.1
 (bd (gc (List.length m) [(.nili)] r1.2) fun r2 => some (tupD r2))
 (bd (rMkif ty_plain [t0] r1.2) fun r3 =>
 bd (gc (List.length m) [r3.1] r3.2) fun r4 => some (tupD r4))
theorem S_fault_Of (O : Orc) (t0 : D) (m : Mem) : f_fault_Of.step2 O [t0] m = s_fault_Of O t0 m := by kernel_rfl
def s_num_Of (O : Orc) (t0 : D) (m : Mem) : RV :=
 bd (rBinI .lss [t0, .int .i64 0] m) fun r1 =>
 dCond r1.1
 (bd (rConv .u64 [t0] r1.2) fun r2 =>
 bd (rNeg [r2.1] r2.2) fun r3 =>
 bd (rCallc O nat_Of [r3.1] r3.2) fun r4 =>
 bd (rCallc O num_New [.bool true, r4.1] r4.2) fun r5 =>
 bd (gc (List.length m) [r5.1] r5.2) fun r6 => some (tupD r6))
 (bd (rConv .u64 [t0] r1.2) fun r7 =>
 bd (rCallc O nat_Of [r7.1] r7.2) fun r8 =>
 bd (rCallc O num_New [.bool false, r8.1] r8.2) fun r9 =>
 bd (gc (List.length m) [r9.1] r9.2) fun r10 => some (tupD r10))
theorem S_num_Of (O : Orc) (t0 : D) (m : Mem) : f_num_Of.step2 O [t0] m = s_num_Of O t0 m := by kernel_rfl
def s_num_Int_Mul (O : Orc) (t0 t1 : D) (m : Mem) : RV :=
 bd (rCallc O num_Int_Sign [t0] m) fun r1 =>
 bd (rCallc O num_Int_Sign [t1] r1.2) fun r2 =>
 bd (rBinI .mul [r1.1, r2.1] r2.2) fun r3 =>
 bd (rBinI .lss [r3.1, .int .i64 0] r3.2) fun r4 =>
 bd (rCallc O num_Int_Abs [t0] r4.2) fun r5 =>
 bd (rCallc O num_Int_Abs [t1] r5.2) fun r6 =>
 bd (rCallc O nat_Nat_Mul [r5.1, r6.1] r6.2) fun r7 =>
 bd (rCallc O num_New [r4.1, r7.1] r7.2) fun r8 =>
 bd (gc (List.length m) [r8.1] r8.2) fun r9 => some (tupD r9)
theorem S_num_Int_Mul (O : Orc) (t0 t1 : D) (m : Mem) : f_num_Int_Mul.step2 O [t0, t1] m = s_num_Int_Mul O t0 t1 m := by kernel_rfl
def s_num_Int_Add (O : Orc) (t0 t1 : D) (m : Mem) : RV :=
 bd (rCallc O num_Int_Sign [t0] m) fun r1 =>
 bd (rBinI .lss [r1.1, .int .i64 0] r1.2) fun r2 =>
 bd (rCallc O num_Int_Sign [t1] r2.2) fun r3 =>
 bd (rBinI .lss [r3.1, .int .i64 0] r3.2) fun r4 =>
 bd (rEqB false [r2.1, r4.1] r4.2) fun r5 =>
 dCond r5.1
 (bd (rCallc O num_Int_Abs [t0] r5.2) fun r6 =>
 bd (rCallc O num_Int_Abs [t1] r6.2) fun r7 =>
 bd (rCallc O nat_Nat_Add [r6.1, r7.1] r7.2) fun r8 =>
 bd (rCallc O num_New [r2.1, r8.1] r8.2) fun r9 =>
 bd (gc (List.length m) [r9.1] r9.2) fun r10 => some (tupD r10))
 (bd (rCallc O num_Int_Abs [t0] r5.2) fun r11 =>
 bd (rCallc O num_Int_Abs [t1] r11.2) fun r12 =>
 bd (rCallc O nat_Nat_Cmp [r11.1, r12.1] r12.2) fun r13 =>
 bd (rBinI .lss [r13.1, .int .i64 0] r13.2) fun r14 =>
 dCond r14.1
 (bd (rCallc O num_Int_Abs [t1] r14.2) fun r15 =>
 bd (rCallc O num_Int_Abs [t0] r15.2) fun r16 =>
 bd (rCallc O nat_Nat_Sub [r15.1, r16.1] r16.2) fun r17 =>
 bd (rExt 0 [r17.1] r17.2) fun r18 =>
 bd (rExt 1 [r17.1] r18.2) fun r19 =>
 bd (rCallc O num_New [r4.1, r18.1] r19.2) fun r20 =>
 bd (gc (List.length m) [r20.1] r20.2) fun r21 => some (tupD r21))
 (bd (rCallc O num_Int_Abs [t0] r14.2) fun r22 =>
 bd (rCallc O num_Int_Abs [t1] r22.2) fun r23 =>
 bd (rCallc O nat_Nat_Sub [r22.1, r23.1] r23.2) fun r24 =>
 bd (rExt 0 [r24.1] r24.2) fun r25 =>
 bd (rExt 1 [r24.1] r25.2) fun r26 =>
 bd (rCallc O num_New [r2.1, r25.1] r26.2) fun r27 =>
 bd (gc (List.length m) [r27.1] r27.2) fun r28 => some (tupD r28)))
theorem S_num_Int_Add (O : Orc) (t0 t1 : D) (m : Mem) : f_num_Int_Add.step2 O [t0, t1] m = s_num_Int_Add O t0 t1 m := by kernel_rfl
def s_rat_Rat_Den (O : Orc) (t0 : D) (m : Mem) : RV :=
 bd (rEqP false [t0, .nilp] m) fun r1 =>
 bd (gop (wantsD r1.1 false) (rMov [t0] r1.2) r1.2) fun r2 =>
 bd (gop (wantsD r1.1 false) (rNilck [r2.1] r2.2) r2.2) fun r3 =>
 bd (gop (wantsD r1.1 false) (rFadr 1 [r3.1] r3.2) r3.2) fun r4 =>
 bd (gop (wantsD r1.1 false) (rLoad1 [r4.1] r4.2) r4.2) fun r5 =>
 bd (gop (wantsD r1.1 false) (rEqP false [r5.1, .nilp] r5.2) r5.2) fun r6 =>
 bd (rPick [r1.1, .bool true, r6.1] r6.2) fun r7 =>
 dCond r7.1
 (bd (rCallc O num_Of [.int .i64 1] r7.2) fun r8 =>
 bd (gc (List.length m) [r8.1] r8.2) fun r9 => some (tupD r9))
 (bd (rNilck [t0] r7.2) fun r10 =>
 bd (rFadr 1 [r10.1] r10.2) fun r11 =>
 bd (rLoad1 [r11.1] r11.2) fun r12 =>
 bd (gc (List.length m) [r12.1] r12.2) fun r13 => some (tupD r13))
theorem S_rat_Rat_Den (O : Orc) (t0 : D) (m : Mem) : f_rat_Rat_Den.step2 O [t0] m = s_rat_Rat_Den O t0 m := by kernel_rfl
def s_rat_Rat_Num (O : Orc) (t0 : D) (m : Mem) : RV :=
 bd (rEqP false [t0, .nilp] m) fun r1 =>
 bd (gop (wantsD r1.1 false) (rMov [t0] r1.2) r1.2) fun r2 =>
 bd (gop (wantsD r1.1 false) (rNilck [r2.1] r2.2) r2.2) fun r3 =>
 bd (gop (wantsD r1.1 false) (rFadr 0 [r3.1] r3.2) r3.2) fun r4 =>
 bd (gop (wantsD r1.1 false) (rLoad1 [r4.1] r4.2) r4.2) fun r5 =>
 bd (gop (wantsD r1.1 false) (rEqP false [r5.1, .nilp] r5.2) r5.2) fun r6 =>
 bd (rPick [r1.1, .bool true, r6.1] r6.2) fun r7 =>
 dCond r7.1
 (bd (rCallc O num_Of [.int .i64 0] r7.2) fun r8 =>
 bd (gc (List.length m) [r8.1] r8.2) fun r9 => some (tupD r9))
 (bd (rNilck [t0] r7.2) fun r10 =>
 bd (rFadr 0 [r10.1] r10.2) fun r11 =>
 bd (rLoad1 [r11.1] r11.2) fun r12 =>
 bd (gc (List.length m) [r12.1] r12.2) fun r13 => some (tupD r13))
theorem S_rat_Rat_Num (O : Orc) (t0 : D) (m : Mem) : f_rat_Rat_Num.step2 O [t0] m = s_rat_Rat_Num O t0 m := by kernel_rfl
def s_num_Int_Sign (O : Orc) (t0 : D) (m : Mem) : RV :=
 bd (rCallc O num_Int_Abs [t0] m) fun r1 =>
 bd (rCallc O nat_Nat_Zero [r1.1] r1.2) fun r2 =>
 dCond r2.1
 (bd (gc (List.length m) [(.int .i64 0)] r2.2) fun r3 => some (tupD r3))
 (bd (rNilck [t0] r2.2) fun r4 =>
 bd (rFadr 0 [r4.1] r4.2) fun r5 =>
 bd (rLoad1 [r5.1] r5.2) fun r6 =>
 dCond r6.1
 (bd (gc (List.length m) [(.int .i64 (-1))] r6.2) fun r7 => some (tupD r7))
 (bd (gc (List.length m) [(.int .i64 1)] r6.2) fun r8 => some (tupD r8)))
theorem S_num_Int_Sign (O : Orc) (t0 : D) (m : Mem) : f_num_Int_Sign.step2 O [t0] m = s_num_Int_Sign O t0 m := by kernel_rfl
def s_rat_New (O : Orc) (t0 t1 : D) (m : Mem) : RV :=
 bd (rCallc O num_Int_Sign [t1] m) fun r1 =>
 bd (rBinI .eql [r1.1, .int .i64 0] r1.2) fun r2 =>
 dCond r2.1
 (bd (rCallc O fault_Of [.int .i64 3] r2.2) fun r3 =>
 bd (gc (List.length m) [(.nilp), r3.1] r3.2) fun r4 => some (tupD r4))
 (bd (rCallc O num_Int_Abs [t0] r2.2) fun r5 =>
 bd (rCallc O num_Int_Abs [t1] r5.2) fun r6 =>
 bd (rCallc O nat_Nat_Gcd [r5.1, r6.1] r6.2) fun r7 =>
 bd (rCallc O num_Int_Abs [t0] r7.2) fun r8 =>
 bd (rCallc O nat_Nat_Div [r8.1, r7.1] r8.2) fun r9 =>
 bd (rExt 0 [r9.1] r9.2) fun r10 =>
 bd (rExt 1 [r9.1] r10.2) fun r11 =>
 bd (rExt 2 [r9.1] r11.2) fun r12 =>
 bd (rCallc O num_Int_Abs [t1] r12.2) fun r13 =>
 bd (rCallc O nat_Nat_Div [r13.1, r7.1] r13.2) fun r14 =>
 bd (rExt 0 [r14.1] r14.2) fun r15 =>
 bd (rExt 1 [r14.1] r15.2) fun r16 =>
 bd (rExt 2 [r14.1] r16.2) fun r17 =>
 bd (rCallc O num_Int_Sign [t0] (r17.2 ++ [.free])) fun r19 =>
 bd (rCallc O num_Int_Sign [t1] r19.2) fun r20 =>
 bd (rBinI .mul [r19.1, r20.1] r20.2) fun r21 =>
 bd (rBinI .lss [r21.1, .int .i64 0] r21.2) fun r22 =>
 bd (rCallc O num_New [r22.1, r10.1] r22.2) fun r23 =>
 bd (rCallc O num_New [.bool false, r15.1] r23.2) fun r24 =>
 bd (rBuild [.nilp, .nilp] [(0, 1), (1, 1)] [r23.1, r24.1] r24.2) fun r25 =>
 bd (rBox (List.length r17.2) 0 [r25.1] r25.2) fun r26 =>
 bd (gc (List.length m) [r26.1, (.nili)] r26.2) fun r27 => some (tupD r27))
theorem S_rat_New (O : Orc) (t0 t1 : D) (m : Mem) : f_rat_New.step2 O [t0, t1] m = s_rat_New O t0 t1 m := by kernel_rfl
def s_dec_Get (O : Orc) (t0 : D) (m : Mem) : RV :=
 bd (rCallc O strings_CutPrefix [t0, .str [45]] m) fun r1 =>
 bd (rExt 0 [r1.1] r1.2) fun r2 =>
 bd (rExt 1 [r1.1] r2.2) fun r3 =>
 bd (rCallc O strings_Cut [r2.1, .str [46]] r3.2) fun r4 =>
 bd (rExt 0 [r4.1] r4.2) fun r5 =>
 bd (rExt 1 [r4.1] r5.2) fun r6 =>
 bd (rExt 2 [r4.1] r6.2) fun r7 =>
 bd (rLenS [t0] r7.2) fun r8 =>
 bd (rBinI .gtr [r8.1, .int .i64 60] r8.2) fun r9 =>
 bd (gop (wantsD r9.1 false) (rMov [r7.1] r9.2) r9.2) fun r10 =>
 bd (gop (wantsD r9.1 false) (rMov [r10.1] r10.2) r10.2) fun r11 =>
 bd (gop (wantsD r11.1 true) (rMov [r6.1] r11.2) r11.2) fun r12 =>
 bd (gop (wantsD r11.1 true) (rBinS .eql [r12.1, .str []] r12.2) r12.2) fun r13 =>
 bd (gop (wantsD r11.1 true) (rMov [r13.1] r13.2) r13.2) fun r14 =>
 bd (gop (wantsD r14.1 false) (rMov [r6.1] r14.2) r14.2) fun r15 =>
 bd (gop (wantsD r14.1 false) (rLenS [r15.1] r15.2) r15.2) fun r16 =>
 bd (gop (wantsD r14.1 false) (rBinI .gtr [r16.1, .int .i64 20] r16.2) r16.2) fun r17 =>
 bd (gop (wantsD r11.1 true) (rPick [r14.1, .bool true, r17.1] r17.2) r17.2) fun r18 =>
 bd (gop (wantsD r11.1 true) (rMov [r18.1] r18.2) r18.2) fun r19 =>
 bd (gop (wantsD r19.1 false) (rMov [r6.1] r19.2) r19.2) fun r20 =>
 bd (gop (wantsD r19.1 false) (rCallc O strings_Trim [r20.1, .str [48, 49, 50, 51, 52, 53, 54, 55, 56, 57]] r20.2) r20.2) fun r21 =>
 bd (gop (wantsD r19.1 false) (rBinS .neq [r21.1, .str []] r21.2) r21.2) fun r22 =>
 bd (gop (wantsD r11.1 true) (rPick [r19.1, .bool true, r22.1] r22.2) r22.2) fun r23 =>
 bd (gop (wantsD r9.1 false) (rPick [r11.1, r23.1, .bool false] r23.2) r23.2) fun r24 =>
 bd (rPick [r9.1, .bool true, r24.1] r24.2) fun r25 =>
 bd (rCallc O nat_Get [r5.1] r25.2) fun r26 =>
 bd (rExt 0 [r26.1] r26.2) fun r27 =>
 bd (rExt 1 [r26.1] r27.2) fun r28 =>
 bd (gop (wantsD r25.1 false) (rMov [r28.1] r28.2) r28.2) fun r29 =>
 bd (gop (wantsD r25.1 false) (rEqN true true [r29.1, .nili] r29.2) r29.2) fun r30 =>
 bd (rPick [r25.1, .bool true, r30.1] r30.2) fun r31 =>
 dCond r31.1
 (bd (rCallc O fault_Of [.int .i64 1] r31.2) fun r32 =>
 bd (gc (List.length m) [(.nilp), (.int .i64 0), r32.1] r32.2) fun r33 => some (tupD r33))
 (bd (rCallc O nat_Get [.str [48]] r31.2) fun r34 =>
 bd (rExt 0 [r34.1] r34.2) fun r35 =>
 bd (rExt 1 [r34.1] r35.2) fun r36 =>
 bd (rBinS .add [r5.1, r6.1] r36.2) fun r37 =>
 bd (rCallc O strings_TrimLeft [r37.1, .str [48]] r37.2) fun r38 =>
 bd (rBinS .neq [r38.1, .str []] r38.2) fun r39 =>
 jn (dCond r39.1
 (bd (rCallc O nat_Get [r38.1] r39.2) fun r40 =>
 bd (rExt 0 [r40.1] r40.2) fun r41 =>
 bd (rExt 1 [r40.1] r41.2) fun r42 =>
 some (.normal, [r3.1, r6.1, r41.1], r42.2))
 (some (.normal, [r3.1, r6.1, r35.1], r39.2))) fun r43 =>
 exM r43.1
 (bd (gop (wantsD (hd r43.2.1) true) (rMov [(hd (tl (tl r43.2.1)))] r43.2.2) r43.2.2) fun r45 =>
 bd (gop (wantsD (hd r43.2.1) true) (rCallc O nat_Nat_Zero [r45.1] r45.2) r45.2) fun r46 =>
 bd (rPick [(hd r43.2.1), r46.1, .bool false] r46.2) fun r47 =>
 dCond r47.1
 (bd (rCallc O fault_Of [.int .i64 1] r47.2) fun r48 =>
 bd (gc (List.length m) [(.nilp), (.int .i64 0), r48.1] r48.2) fun r49 => some (tupD r49))
 (bd (rCallc O num_New [(hd r43.2.1), (hd (tl (tl r43.2.1)))] r47.2) fun r50 =>
 bd (rLenS [(hd (tl r43.2.1))] r50.2) fun r51 =>
 bd (rCallc O dec_ten [r51.1] r51.2) fun r52 =>
 bd (rCallc O rat_New [r50.1, r52.1] r52.2) fun r53 =>
 bd (rExt 0 [r53.1] r53.2) fun r54 =>
 bd (rExt 1 [r53.1] r54.2) fun r55 =>
 bd (rLenS [(hd (tl r43.2.1))] r55.2) fun r56 =>
 bd (gc (List.length m) [r54.1, r56.1, (.nili)] r56.2) fun r57 => some (tupD r57)))
 (fun i44 => none)
 (none))
theorem S_dec_Get (O : Orc) (t0 : D) (m : Mem) : f_dec_Get.step2 O [t0] m = s_dec_Get O t0 m := by kernel_rfl
def s_bond_days (O : Orc) (t0 : D) (m : Mem) : RV :=
 bd (rBox (List.length m) 0 [t0] (m ++ [.free])) fun r2 =>
 bd (rFadr 0 [r2.1] r2.2) fun r3 =>
 bd (rLoad1 [r3.1] r3.2) fun r4 =>
 bd (rCallc O date_Weekday [r4.1] r4.2) fun r5 =>
 bd (rBinI .lss [r5.1, .int .i64 0] r5.2) fun r6 =>
 dCond r6.1
 (bd (rCallc O fault_New [.int .i64 4, .str [105, 115, 115, 117, 101]] r6.2) fun r7 =>
 bd (gc (List.length m) [r7.1] r7.2) fun r8 => some (tupD r8))
 (bd (rFadr 1 [r2.1] r6.2) fun r9 =>
 bd (rLoad1 [r9.1] r9.2) fun r10 =>
 bd (rCallc O date_Weekday [r10.1] r10.2) fun r11 =>
 bd (rBinI .lss [r11.1, .int .i64 0] r11.2) fun r12 =>
 dCond r12.1
 (bd (rCallc O fault_New [.int .i64 4, .str [109, 97, 116, 117, 114, 101]] r12.2) fun r13 =>
 bd (gc (List.length m) [r13.1] r13.2) fun r14 => some (tupD r14))
 (bd (rFadr 1 [r2.1] r12.2) fun r15 =>
 bd (rLoad1 [r15.1] r15.2) fun r16 =>
 bd (rFadr 0 [r2.1] r16.2) fun r17 =>
 bd (rLoad1 [r17.1] r17.2) fun r18 =>
 bd (rBinI .leq [r16.1, r18.1] r18.2) fun r19 =>
 dCond r19.1
 (bd (rCallc O fault_New [.int .i64 5, .str [109, 97, 116, 117, 114, 101]] r19.2) fun r20 =>
 bd (gc (List.length m) [r20.1] r20.2) fun r21 => some (tupD r21))
 (bd (rFadr 0 [r2.1] r19.2) fun r22 =>
 bd (rLoad1 [r22.1] r22.2) fun r23 =>
 bd (rCallc O month_Add [r23.1, .int .i64 360, .bool false] r23.2) fun r24 =>
 bd (rExt 0 [r24.1] r24.2) fun r25 =>
 bd (rExt 1 [r24.1] r25.2) fun r26 =>
 bd (rEqN false true [r26.1, .nili] r26.2) fun r27 =>
 bd (gop (wantsD r27.1 true) (rFadr 1 [r2.1] r27.2) r27.2) fun r28 =>
 bd (gop (wantsD r27.1 true) (rLoad1 [r28.1] r28.2) r28.2) fun r29 =>
 bd (gop (wantsD r27.1 true) (rMov [r25.1] r29.2) r29.2) fun r30 =>
 bd (gop (wantsD r27.1 true) (rBinI .gtr [r29.1, r30.1] r30.2) r30.2) fun r31 =>
 bd (rPick [r27.1, r31.1, .bool false] r31.2) fun r32 =>
 dCond r32.1
 (bd (rCallc O fault_New [.int .i64 5, .str [109, 97, 116, 117, 114, 101]] r32.2) fun r33 =>
 bd (gc (List.length m) [r33.1] r33.2) fun r34 => some (tupD r34))
 (bd (gc (List.length m) [(.nili)] r32.2) fun r35 => some (tupD r35)))))
theorem S_bond_days (O : Orc) (t0 : D) (m : Mem) : f_bond_days.step2 O [t0] m = s_bond_days O t0 m := by kernel_rfl
def s_bond_sums (O : Orc) (t0 : D) (m : Mem) : RV :=
 bd (rBox (List.length m) 0 [t0] (m ++ [.free])) fun r2 =>
 bd (rFadr 3 [r2.1] r2.2) fun r3 =>
 bd (rLoad1 [r3.1] r3.2) fun r4 =>
 bd (rCallc O bond_value [r4.1] r4.2) fun r5 =>
 bd (rExt 0 [r5.1] r5.2) fun r6 =>
 bd (rExt 1 [r5.1] r6.2) fun r7 =>
 bd (rExt 2 [r5.1] r7.2) fun r8 =>
 bd (rEqN true true [r8.1, .nili] r8.2) fun r9 =>
 dCond r9.1
 (bd (rCallc O fault_New [.int .i64 1, .str [99, 111, 117, 112, 111, 110]] r9.2) fun r10 =>
 bd (gc (List.length m) [r10.1] r10.2) fun r11 => some (tupD r11))
 (bd (rNot [r7.1] r9.2) fun r12 =>
 bd (gop (wantsD r12.1 false) (rMov [r6.1] r12.2) r12.2) fun r13 =>
 bd (gop (wantsD r12.1 false) (rCallc O rat_Rat_Sign [r13.1] r13.2) r13.2) fun r14 =>
 bd (gop (wantsD r12.1 false) (rBinI .lss [r14.1, .int .i64 0] r14.2) r14.2) fun r15 =>
 bd (rPick [r12.1, .bool true, r15.1] r15.2) fun r16 =>
 bd (gop (wantsD r16.1 false) (rMov [r6.1] r16.2) r16.2) fun r17 =>
 bd (gop (wantsD r16.1 false) (rCallc O bond_of [.int .i64 30] r17.2) r17.2) fun r18 =>
 bd (gop (wantsD r16.1 false) (rCallc O rat_Rat_Cmp [r17.1, r18.1] r18.2) r18.2) fun r19 =>
 bd (gop (wantsD r16.1 false) (rBinI .gtr [r19.1, .int .i64 0] r19.2) r19.2) fun r20 =>
 bd (rPick [r16.1, .bool true, r20.1] r20.2) fun r21 =>
 dCond r21.1
 (bd (rCallc O fault_New [.int .i64 5, .str [99, 111, 117, 112, 111, 110]] r21.2) fun r22 =>
 bd (gc (List.length m) [r22.1] r22.2) fun r23 => some (tupD r23))
 (bd (rFadr 4 [r2.1] r21.2) fun r24 =>
 bd (rLoad1 [r24.1] r24.2) fun r25 =>
 bd (rCallc O bond_value [r25.1] r25.2) fun r26 =>
 bd (rExt 0 [r26.1] r26.2) fun r27 =>
 bd (rExt 1 [r26.1] r27.2) fun r28 =>
 bd (rExt 2 [r26.1] r28.2) fun r29 =>
 bd (rEqN true true [r29.1, .nili] r29.2) fun r30 =>
 dCond r30.1
 (bd (rCallc O fault_New [.int .i64 1, .str [114, 101, 100, 101, 101, 109]] r30.2) fun r31 =>
 bd (gc (List.length m) [r31.1] r31.2) fun r32 => some (tupD r32))
 (bd (rNot [r28.1] r30.2) fun r33 =>
 bd (gop (wantsD r33.1 false) (rMov [r27.1] r33.2) r33.2) fun r34 =>
 bd (gop (wantsD r33.1 false) (rCallc O rat_Rat_Sign [r34.1] r34.2) r34.2) fun r35 =>
 bd (gop (wantsD r33.1 false) (rBinI .leq [r35.1, .int .i64 0] r35.2) r35.2) fun r36 =>
 bd (rPick [r33.1, .bool true, r36.1] r36.2) fun r37 =>
 bd (gop (wantsD r37.1 false) (rMov [r27.1] r37.2) r37.2) fun r38 =>
 bd (gop (wantsD r37.1 false) (rCallc O bond_of [.int .i64 200] r38.2) r38.2) fun r39 =>
 bd (gop (wantsD r37.1 false) (rCallc O rat_Rat_Cmp [r38.1, r39.1] r39.2) r39.2) fun r40 =>
 bd (gop (wantsD r37.1 false) (rBinI .gtr [r40.1, .int .i64 0] r40.2) r40.2) fun r41 =>
 bd (rPick [r37.1, .bool true, r41.1] r41.2) fun r42 =>
 dCond r42.1
 (bd (rCallc O fault_New [.int .i64 5, .str [114, 101, 100, 101, 101, 109]] r42.2) fun r43 =>
 bd (gc (List.length m) [r43.1] r43.2) fun r44 => some (tupD r44))
 (bd (gc (List.length m) [(.nili)] r42.2) fun r45 => some (tupD r45)))))
theorem S_bond_sums (O : Orc) (t0 : D) (m : Mem) : f_bond_sums.step2 O [t0] m = s_bond_sums O t0 m := by kernel_rfl
def s_count_May (O : Orc) (t0 : D) (m : Mem) : RV :=
 bd (rBinI .geq [t0, .int .i64 1] m) fun r1 =>
 bd (gop (wantsD r1.1 true) (rMov [t0] r1.2) r1.2) fun r2 =>
 bd (gop (wantsD r1.1 true) (rBinI .leq [r2.1, .int .i64 4] r2.2) r2.2) fun r3 =>
 bd (rPick [r1.1, r3.1, .bool false] r3.2) fun r4 =>
 bd (gc (List.length m) [r4.1] r4.2) fun r5 => some (tupD r5)
theorem S_count_May (O : Orc) (t0 : D) (m : Mem) : f_count_May.step2 O [t0] m = s_count_May O t0 m := by kernel_rfl
def s_bond_of (O : Orc) (t0 : D) (m : Mem) : RV :=
 bd (rCallc O rat_Of [t0, .int .i64 1] m) fun r1 =>
 bd (rExt 0 [r1.1] r1.2) fun r2 =>
 bd (rExt 1 [r1.1] r2.2) fun r3 =>
 bd (gc (List.length m) [r2.1] r3.2) fun r4 => some (tupD r4)
theorem S_bond_of (O : Orc) (t0 : D) (m : Mem) : f_bond_of.step2 O [t0] m = s_bond_of O t0 m := by kernel_rfl
def s_bond_value (O : Orc) (t0 : D) (m : Mem) : RV :=
 bd (rCallc O dec_Get [t0] m) fun r1 =>
 bd (rExt 0 [r1.1] r1.2) fun r2 =>
 bd (rExt 1 [r1.1] r2.2) fun r3 =>
 bd (rExt 2 [r1.1] r3.2) fun r4 =>
 bd (rBinI .leq [r3.1, .int .i64 6] r4.2) fun r5 =>
 bd (gc (List.length m) [r2.1, r5.1, r4.1] r5.2) fun r6 => some (tupD r6)
theorem S_bond_value (O : Orc) (t0 : D) (m : Mem) : f_bond_value.step2 O [t0] m = s_bond_value O t0 m := by kernel_rfl
def s_nat_Get_b1 (O : Orc) (base : Nat) (t0 t5 t6 t7 : D) (m : Mem) : Option (Ex × List D × Mem) :=
 bd (rBinS .neq [t0, .str []] m) fun r1 =>
 dCond r1.1
 (bd (rSlS false true [t0, t7] r1.2) fun r2 =>
 bd (rCallc O strconv_ParseUint [r2.1, .int .i64 10, .int .i64 64] r2.2) fun r3 =>
 bd (rExt 0 [r3.1] r3.2) fun r4 =>
 bd (rExt 1 [r3.1] r4.2) fun r5 =>
 bd (rCallc O nat_Nat_Mul [t5, t6] r5.2) fun r6 =>
 bd (rCallc O nat_Of [r4.1] r6.2) fun r7 =>
 bd (rCallc O nat_Nat_Add [r6.1, r7.1] r7.2) fun r8 =>
 bd (rSlS true false [t0, t7] r8.2) fun r9 =>
 bd (gc base [r9.1, r8.1, t6, (.int .i64 18)] r9.2) fun r10 => O.loop [0, 5, 6, 7] [5] nat_Get_b1 base r10.1 r10.2)
 (bd (gc base [t5] r1.2) fun r11 => some ((.exit 0), r11.1, r11.2))
theorem S_nat_Get_b1 (O : Orc) (base : Nat) (t0 t5 t6 t7 : D) (m : Mem) : loopStep2 O [0, 5, 6, 7] [5] nat_Get_b1 base [t0, t5, t6, t7] m = s_nat_Get_b1 O base t0 t5 t6 t7 m := by kernel_rfl
def s_nat_Get (O : Orc) (t0 : D) (m : Mem) : RV :=
 bd (rBinS .eql [t0, .str []] m) fun r1 =>
 bd (gop (wantsD r1.1 false) (rMov [t0] r1.2) r1.2) fun r2 =>
 bd (gop (wantsD r1.1 false) (rLenS [r2.1] r2.2) r2.2) fun r3 =>
 bd (gop (wantsD r1.1 false) (rBinI .gtr [r3.1, .int .i64 4000] r3.2) r3.2) fun r4 =>
 bd (rPick [r1.1, .bool true, r4.1] r4.2) fun r5 =>
 bd (gop (wantsD r5.1 false) (rMov [t0] r5.2) r5.2) fun r6 =>
 bd (gop (wantsD r5.1 false) (rLenS [r6.1] r6.2) r6.2) fun r7 =>
 bd (gop (wantsD r5.1 false) (rBinI .gtr [r7.1, .int .i64 1] r7.2) r7.2) fun r8 =>
 bd (gop (wantsD r5.1 false) (rMov [r8.1] r8.2) r8.2) fun r9 =>
 bd (gop (wantsD r9.1 true) (rMov [t0] r9.2) r9.2) fun r10 =>
 bd (gop (wantsD r9.1 true) (rIdxS [r10.1, .int .i64 0] r10.2) r10.2) fun r11 =>
 bd (gop (wantsD r9.1 true) (rBinI .eql [r11.1, .int .u8 48] r11.2) r11.2) fun r12 =>
 bd (gop (wantsD r5.1 false) (rPick [r9.1, r12.1, .bool false] r12.2) r12.2) fun r13 =>
 bd (rPick [r5.1, .bool true, r13.1] r13.2) fun r14 =>
 bd (gop (wantsD r14.1 false) (rMov [t0] r14.2) r14.2) fun r15 =>
 bd (gop (wantsD r14.1 false) (rCallc O strings_Trim [r15.1, .str [48, 49, 50, 51, 52, 53, 54, 55, 56, 57]] r15.2) r15.2) fun r16 =>
 bd (gop (wantsD r14.1 false) (rBinS .neq [r16.1, .str []] r16.2) r16.2) fun r17 =>
 bd (rPick [r14.1, .bool true, r17.1] r17.2) fun r18 =>
 dCond r18.1
 (bd (rCallc O fault_Of [.int .i64 1] r18.2) fun r19 =>
 bd (gc (List.length m) [(.nilp), r19.1] r19.2) fun r20 => some (tupD r20))
 (bd (rCallc O nat_Of [.int .u64 0] r18.2) fun r21 =>
 bd (rCallc O nat_Of [.int .u64 1000000000000000000] r21.2) fun r22 =>
 bd (rLenS [t0] r22.2) fun r23 =>
 bd (rBinI .sub [r23.1, .int .i64 1] r23.2) fun r24 =>
 bd (rBinI .rem [r24.1, .int .i64 18] r24.2) fun r25 =>
 bd (rBinI .add [r25.1, .int .i64 1] r25.2) fun r26 =>
 jn (O.loop [0, 5, 6, 7] [5] nat_Get_b1 (List.length r26.2) [t0, r21.1, r22.1, r26.1] r26.2) fun r27 =>
 exM (blkX 0 r27.1)
 (bd (gc (List.length m) [(hd r27.2.1), (.nili)] r27.2.2) fun r29 => some (tupD r29))
 (fun i28 => none)
 (none))
theorem S_nat_Get (O : Orc) (t0 : D) (m : Mem) : f_nat_Get.step2 O [t0] m = s_nat_Get O t0 m := by kernel_rfl
def s_nat_Nat_Zero (O : Orc) (t0 : D) (m : Mem) : RV :=
 bd (rCallc O nat_Nat_limbs [t0] m) fun r1 =>
 bd (rLenL [r1.1] r1.2) fun r2 =>
 bd (rBinI .eql [r2.1, .int .i64 0] r2.2) fun r3 =>
 bd (gc (List.length m) [r3.1] r3.2) fun r4 => some (tupD r4)
theorem S_nat_Nat_Zero (O : Orc) (t0 : D) (m : Mem) : f_nat_Nat_Zero.step2 O [t0] m = s_nat_Nat_Zero O t0 m := by kernel_rfl
def s_num_New (O : Orc) (t0 t1 : D) (m : Mem) : RV :=
 bd (gop (wantsD t0 true) (rMov [t1] (m ++ [.free])) (m ++ [.free])) fun r2 =>
 bd (gop (wantsD t0 true) (rCallc O nat_Nat_Zero [r2.1] r2.2) r2.2) fun r3 =>
 bd (gop (wantsD t0 true) (rNot [r3.1] r3.2) r3.2) fun r4 =>
 bd (rPick [t0, r4.1, .bool false] r4.2) fun r5 =>
 bd (rBuild [.bool false, .nilp] [(0, 1), (1, 1)] [r5.1, t1] r5.2) fun r6 =>
 bd (rBox (List.length m) 0 [r6.1] r6.2) fun r7 =>
 bd (gc (List.length m) [r7.1] r7.2) fun r8 => some (tupD r8)
theorem S_num_New (O : Orc) (t0 t1 : D) (m : Mem) : f_num_New.step2 O [t0, t1] m = s_num_New O t0 t1 m := by kernel_rfl
def s_num_Int_Neg (O : Orc) (t0 : D) (m : Mem) : RV :=
 bd (rCallc O num_Int_Sign [t0] m) fun r1 =>
 bd (rBinI .geq [r1.1, .int .i64 0] r1.2) fun r2 =>
 bd (rCallc O num_Int_Abs [t0] r2.2) fun r3 =>
 bd (rCallc O num_New [r2.1, r3.1] r3.2) fun r4 =>
 bd (gc (List.length m) [r4.1] r4.2) fun r5 => some (tupD r5)
theorem S_num_Int_Neg (O : Orc) (t0 : D) (m : Mem) : f_num_Int_Neg.step2 O [t0] m = s_num_Int_Neg O t0 m := by kernel_rfl
def s_num_Int_Cmp (O : Orc) (t0 t1 : D) (m : Mem) : RV :=
 bd (rCallc O num_Int_Sub [t0, t1] m) fun r1 =>
 bd (rCallc O num_Int_Sign [r1.1] r1.2) fun r2 =>
 bd (gc (List.length m) [r2.1] r2.2) fun r3 => some (tupD r3)
theorem S_num_Int_Cmp (O : Orc) (t0 t1 : D) (m : Mem) : f_num_Int_Cmp.step2 O [t0, t1] m = s_num_Int_Cmp O t0 t1 m := by kernel_rfl
def s_rat_sure (O : Orc) (t0 t1 : D) (m : Mem) : RV :=
 bd (rCallc O rat_New [t0, t1] m) fun r1 =>
 bd (rExt 0 [r1.1] r1.2) fun r2 =>
 bd (rExt 1 [r1.1] r2.2) fun r3 =>
 bd (gc (List.length m) [r2.1] r3.2) fun r4 => some (tupD r4)
theorem S_rat_sure (O : Orc) (t0 t1 : D) (m : Mem) : f_rat_sure.step2 O [t0, t1] m = s_rat_sure O t0 t1 m := by kernel_rfl
def s_date_Of_b1 (O : Orc) (base : Nat) (t1 t4 t5 : D) (m : Mem) : Option (Ex × List D × Mem) :=
 bd (rFadr 1 [t1] m) fun r1 =>
 bd (rLoad1 [r1.1] r1.2) fun r2 =>
 bd (rBinI .lss [t5, r2.1] r2.2) fun r3 =>
 dCond r3.1
 (bd (rFadr 0 [t1] r3.2) fun r4 =>
 bd (rLoad1 [r4.1] r4.2) fun r5 =>
 bd (rCallc O date_Length [r5.1, t5] r5.2) fun r6 =>
 bd (rBinI .add [t4, r6.1] r6.2) fun r7 =>
 bd (rBinI .add [t5, .int .i64 1] r7.2) fun r8 =>
 bd (gc base [t1, r7.1, r8.1] r8.2) fun r9 => O.loop [1, 4, 5] [4] date_Of_b1 base r9.1 r9.2)
 (bd (gc base [t4] r3.2) fun r10 => some ((.exit 0), r10.1, r10.2))
theorem S_date_Of_b1 (O : Orc) (base : Nat) (t1 t4 t5 : D) (m : Mem) : loopStep2 O [1, 4, 5] [4] date_Of_b1 base [t1, t4, t5] m = s_date_Of_b1 O base t1 t4 t5 m := by kernel_rfl
def s_date_Of (O : Orc) (t0 : D) (m : Mem) : RV :=
 bd (rBox (List.length m) 0 [t0] (m ++ [.free])) fun r2 =>
 bd (rFadr 0 [r2.1] r2.2) fun r3 =>
 bd (rLoad1 [r3.1] r3.2) fun r4 =>
 bd (rBinI .lss [r4.1, .int .i64 1900] r4.2) fun r5 =>
 bd (gop (wantsD r5.1 false) (rFadr 0 [r2.1] r5.2) r5.2) fun r6 =>
 bd (gop (wantsD r5.1 false) (rLoad1 [r6.1] r6.2) r6.2) fun r7 =>
 bd (gop (wantsD r5.1 false) (rBinI .gtr [r7.1, .int .i64 2199] r7.2) r7.2) fun r8 =>
 bd (rPick [r5.1, .bool true, r8.1] r8.2) fun r9 =>
 bd (gop (wantsD r9.1 false) (rFadr 2 [r2.1] r9.2) r9.2) fun r10 =>
 bd (gop (wantsD r9.1 false) (rLoad1 [r10.1] r10.2) r10.2) fun r11 =>
 bd (gop (wantsD r9.1 false) (rBinI .lss [r11.1, .int .i64 1] r11.2) r11.2) fun r12 =>
 bd (rPick [r9.1, .bool true, r12.1] r12.2) fun r13 =>
 bd (gop (wantsD r13.1 false) (rFadr 2 [r2.1] r13.2) r13.2) fun r14 =>
 bd (gop (wantsD r13.1 false) (rLoad1 [r14.1] r14.2) r14.2) fun r15 =>
 bd (gop (wantsD r13.1 false) (rFadr 0 [r2.1] r15.2) r15.2) fun r16 =>
 bd (gop (wantsD r13.1 false) (rLoad1 [r16.1] r16.2) r16.2) fun r17 =>
 bd (gop (wantsD r13.1 false) (rFadr 1 [r2.1] r17.2) r17.2) fun r18 =>
 bd (gop (wantsD r13.1 false) (rLoad1 [r18.1] r18.2) r18.2) fun r19 =>
 bd (gop (wantsD r13.1 false) (rCallc O date_Length [r17.1, r19.1] r19.2) r19.2) fun r20 =>
 bd (gop (wantsD r13.1 false) (rBinI .gtr [r15.1, r20.1] r20.2) r20.2) fun r21 =>
 bd (rPick [r13.1, .bool true, r21.1] r21.2) fun r22 =>
 dCond r22.1
 (bd (rCallc O fault_Of [.int .i64 4] r22.2) fun r23 =>
 bd (gc (List.length m) [(.int .i64 0), r23.1] r23.2) fun r24 => some (tupD r24))
 (bd (rFadr 0 [r2.1] r22.2) fun r25 =>
 bd (rLoad1 [r25.1] r25.2) fun r26 =>
 bd (rCallc O date_before [r26.1] r26.2) fun r27 =>
 bd (rFadr 2 [r2.1] r27.2) fun r28 =>
 bd (rLoad1 [r28.1] r28.2) fun r29 =>
 bd (rBinI .add [r27.1, r29.1] r29.2) fun r30 =>
 bd (rBinI .sub [r30.1, .int .i64 1] r30.2) fun r31 =>
 jn (O.loop [1, 4, 5] [4] date_Of_b1 (List.length r31.2) [r2.1, r31.1, (.int .i64 1)] r31.2) fun r32 =>
 exM (blkX 0 r32.1)
 (bd (gc (List.length m) [(hd r32.2.1), (.nili)] r32.2.2) fun r34 => some (tupD r34))
 (fun i33 => none)
 (none))
theorem S_date_Of (O : Orc) (t0 : D) (m : Mem) : f_date_Of.step2 O [t0] m = s_date_Of O t0 m := by kernel_rfl
def s_date_Length (O : Orc) (t0 t1 : D) (m : Mem) : RV :=
 jn (bd (rBinI .eql [t1, .int .i64 2] m) fun r1 =>
 jn (dCond r1.1
 (bd (rCallc O date_Leap [t0] r1.2) fun r2 =>
 dCond r2.1
 (some (.ret, [(.int .i64 29)], r2.2))
 (some (.ret, [(.int .i64 28)], r2.2)))
 (bd (rBinI .eql [t1, .int .i64 4] r1.2) fun r3 =>
 jn (dCond r3.1
 (some (.normal, [t1, r3.1], r3.2))
 (bd (rBinI .eql [t1, .int .i64 6] r3.2) fun r4 =>
 jn (dCond r4.1
 (some (.normal, [t1, r4.1], r4.2))
 (bd (rBinI .eql [t1, .int .i64 9] r4.2) fun r5 =>
 jn (dCond r5.1
 (some (.normal, [t1, r5.1], r5.2))
 (bd (rBinI .eql [t1, .int .i64 11] r5.2) fun r6 =>
 some (.normal, [t1, r6.1], r6.2))) fun r7 =>
 some (r7.1, [(hd r7.2.1), (hd (tl r7.2.1))], r7.2.2))) fun r8 =>
 some (r8.1, [(hd r8.2.1), (hd (tl r8.2.1))], r8.2.2))) fun r9 =>
 exM r9.1
 (jn (dCond (hd (tl r9.2.1))
 (some (.ret, [(.int .i64 30)], r9.2.2))
 (bd (rBinI .eql [(hd r9.2.1), .int .i64 1] r9.2.2) fun r11 =>
 jn (dCond r11.1
 (some (.normal, [r11.1], r11.2))
 (bd (rBinI .eql [(hd r9.2.1), .int .i64 3] r11.2) fun r12 =>
 jn (dCond r12.1
 (some (.normal, [r12.1], r12.2))
 (bd (rBinI .eql [(hd r9.2.1), .int .i64 5] r12.2) fun r13 =>
 jn (dCond r13.1
 (some (.normal, [r13.1], r13.2))
 (bd (rBinI .eql [(hd r9.2.1), .int .i64 7] r13.2) fun r14 =>
 jn (dCond r14.1
 (some (.normal, [r14.1], r14.2))
 (bd (rBinI .eql [(hd r9.2.1), .int .i64 8] r14.2) fun r15 =>
 jn (dCond r15.1
 (some (.normal, [r15.1], r15.2))
 (bd (rBinI .eql [(hd r9.2.1), .int .i64 10] r15.2) fun r16 =>
 jn (dCond r16.1
 (some (.normal, [r16.1], r16.2))
 (bd (rBinI .eql [(hd r9.2.1), .int .i64 12] r16.2) fun r17 =>
 some (.normal, [r17.1], r17.2))) fun r18 =>
 some (r18.1, [(hd r18.2.1)], r18.2.2))) fun r19 =>
 some (r19.1, [(hd r19.2.1)], r19.2.2))) fun r20 =>
 some (r20.1, [(hd r20.2.1)], r20.2.2))) fun r21 =>
 some (r21.1, [(hd r21.2.1)], r21.2.2))) fun r22 =>
 some (r22.1, [(hd r22.2.1)], r22.2.2))) fun r23 =>
 exM r23.1
 (dCond (hd r23.2.1)
 (some (.ret, [(.int .i64 31)], r23.2.2))
 (some (.normal, [.undef], r23.2.2)))
 (fun i24 => some ((.exit i24), [.undef], r23.2.2))
 (some (.ret, [.undef], r23.2.2)))) fun r25 =>
 some (r25.1, [(hd r25.2.1)], r25.2.2))
 (fun i10 => some ((.exit i10), [.undef], r9.2.2))
 (some (.ret, [.undef], r9.2.2)))) fun r26 =>
 some ((blkX 0 r26.1), [(hd r26.2.1)], r26.2.2)) fun r27 =>
 exM r27.1
 (bd (gc (List.length m) [(.int .i64 0)] r27.2.2) fun r29 => some (tupD r29))
 (fun i28 => none)
 (bd (gc (List.length m) [(hd r27.2.1)] r27.2.2) fun r30 => some (tupD r30))
theorem S_date_Length (O : Orc) (t0 t1 : D) (m : Mem) : f_date_Length.step2 O [t0, t1] m = s_date_Length O t0 t1 m := by kernel_rfl
def s_date_Civil_b1 (O : Orc) (base : Nat) (t0 t2 t4 : D) (m : Mem) : Option (Ex × List D × Mem) :=
 bd (rFadr 0 [t4] m) fun r1 =>
 bd (rLoad1 [r1.1] r1.2) fun r2 =>
 bd (rBinI .add [r2.1, .int .i64 1] r2.2) fun r3 =>
 bd (rCallc O date_before [r3.1] r3.2) fun r4 =>
 bd (rBinI .leq [r4.1, t0] r4.2) fun r5 =>
 dCond r5.1
 (bd (rFadr 0 [t4] r5.2) fun r6 =>
 bd (rLoad1 [r6.1] r6.2) fun r7 =>
 bd (rBinI .add [r7.1, .int .i64 1] r7.2) fun r8 =>
 bd (rFadr 0 [t4] r8.2) fun r9 =>
 bd (rStore 1 [r9.1, r8.1] r9.2) fun r10 =>
 bd (gc base [t0, t2, t4] r10.2) fun r11 => O.loop [0, 2, 4] [0, 2, 4] date_Civil_b1 base r11.1 r11.2)
 (bd (gc base [t0, t2, t4] r5.2) fun r12 => some ((.exit 0), r12.1, r12.2))
theorem S_date_Civil_b1 (O : Orc) (base : Nat) (t0 t2 t4 : D) (m : Mem) : loopStep2 O [0, 2, 4] [0, 2, 4] date_Civil_b1 base [t0, t2, t4] m = s_date_Civil_b1 O base t0 t2 t4 m := by kernel_rfl
def s_date_Civil_b2 (O : Orc) (base : Nat) (t2 t4 t5 : D) (m : Mem) : Option (Ex × List D × Mem) :=
 bd (rFadr 0 [t4] m) fun r1 =>
 bd (rLoad1 [r1.1] r1.2) fun r2 =>
 bd (rFadr 1 [t4] r2.2) fun r3 =>
 bd (rLoad1 [r3.1] r3.2) fun r4 =>
 bd (rCallc O date_Length [r2.1, r4.1] r4.2) fun r5 =>
 bd (rBinI .geq [t5, r5.1] r5.2) fun r6 =>
 dCond r6.1
 (bd (rFadr 0 [t4] r6.2) fun r7 =>
 bd (rLoad1 [r7.1] r7.2) fun r8 =>
 bd (rFadr 1 [t4] r8.2) fun r9 =>
 bd (rLoad1 [r9.1] r9.2) fun r10 =>
 bd (rCallc O date_Length [r8.1, r10.1] r10.2) fun r11 =>
 bd (rBinI .sub [t5, r11.1] r11.2) fun r12 =>
 bd (rFadr 1 [t4] r12.2) fun r13 =>
 bd (rLoad1 [r13.1] r13.2) fun r14 =>
 bd (rBinI .add [r14.1, .int .i64 1] r14.2) fun r15 =>
 bd (rFadr 1 [t4] r15.2) fun r16 =>
 bd (rStore 1 [r16.1, r15.1] r16.2) fun r17 =>
 bd (gc base [t2, t4, r12.1] r17.2) fun r18 => O.loop [2, 4, 5] [2, 4, 5] date_Civil_b2 base r18.1 r18.2)
 (bd (gc base [t2, t4, t5] r6.2) fun r19 => some ((.exit 2), r19.1, r19.2))
theorem S_date_Civil_b2 (O : Orc) (base : Nat) (t2 t4 t5 : D) (m : Mem) : loopStep2 O [2, 4, 5] [2, 4, 5] date_Civil_b2 base [t2, t4, t5] m = s_date_Civil_b2 O base t2 t4 t5 m := by kernel_rfl
def s_date_Civil (O : Orc) (t0 : D) (m : Mem) : RV :=
 bd (rAlloc (List.length m) 0 [.int .i64 0, .int .i64 0, .int .i64 0] [] (m ++ [.free])) fun r2 =>
 bd (rCallc O date_is [t0] r2.2) fun r3 =>
 bd (rNot [r3.1] r3.2) fun r4 =>
 dCond r4.1
 (bd (rBuild [.int .i64 0, .int .i64 0, .int .i64 0] [] [] r4.2) fun r5 =>
 bd (rCallc O fault_Of [.int .i64 4] r5.2) fun r6 =>
 bd (rStore 3 [r2.1, r5.1] r6.2) fun r7 =>
 bd (ERs [(2, r2.1), (3, r6.1)] r7.2 [.cell 2 true 3, .tmp 3]) fun rs => bd (gc (List.length m) rs r7.2) fun r8 => some (tupD r8))
 (bd (rBinI .quo [t0, .int .i64 366] (r4.2 ++ [.free])) fun r10 =>
 bd (rBinI .add [.int .i64 1900, r10.1] r10.2) fun r11 =>
 bd (rBuild [.int .i64 0, .int .i64 0, .int .i64 0] [(0, 1), (1, 1)] [r11.1, .int .i64 1] r11.2) fun r12 =>
 bd (rAlloc (List.length r4.2) 0 [.int .i64 0, .int .i64 0, .int .i64 0] [] r12.2) fun r13 =>
 bd (rStore 3 [r13.1, r12.1] r13.2) fun r14 =>
 jn (O.loop [0, 2, 4] [0, 2, 4] date_Civil_b1 (List.length r14.2) [t0, r2.1, r13.1] r14.2) fun r15 =>
 exM (blkX 0 r15.1)
 (bd (rFadr 0 [(hd (tl (tl r15.2.1)))] r15.2.2) fun r17 =>
 bd (rLoad1 [r17.1] r17.2) fun r18 =>
 bd (rCallc O date_before [r18.1] r18.2) fun r19 =>
 bd (rBinI .sub [(hd r15.2.1), r19.1] r19.2) fun r20 =>
 jn (O.loop [2, 4, 5] [2, 4, 5] date_Civil_b2 (List.length r20.2) [(hd (tl r15.2.1)), (hd (tl (tl r15.2.1))), r20.1] r20.2) fun r21 =>
 exM (blkX 2 r21.1)
 (bd (rBinI .add [(hd (tl (tl r21.2.1))), .int .i64 1] r21.2.2) fun r23 =>
 bd (rFadr 2 [(hd (tl r21.2.1))] r23.2) fun r24 =>
 bd (rStore 1 [r24.1, r23.1] r24.2) fun r25 =>
 bd (rLoadA 3 [(hd (tl r21.2.1))] r25.2) fun r26 =>
 bd (rStore 3 [(hd r21.2.1), r26.1] r26.2) fun r27 =>
 bd (ERs [(2, (hd r21.2.1)), (3, (.nili))] r27.2 [.cell 2 true 3, .tmp 3]) fun rs => bd (gc (List.length m) rs r27.2) fun r28 => some (tupD r28))
 (fun i22 => none)
 (bd (ERs [(2, (hd r21.2.1))] r21.2.2 [.cell 2 true 3, .tmp 3]) fun rs => bd (gc (List.length m) rs r21.2.2) fun r29 => some (tupD r29)))
 (fun i16 => none)
 (bd (ERs [(2, (hd (tl r15.2.1)))] r15.2.2 [.cell 2 true 3, .tmp 3]) fun rs => bd (gc (List.length m) rs r15.2.2) fun r30 => some (tupD r30)))
theorem S_date_Civil (O : Orc) (t0 : D) (m : Mem) : f_date_Civil.step2 O [t0] m = s_date_Civil O t0 m := by kernel_rfl
def s_plan_Quasi (O : Orc) (t0 t1 : D) (m : Mem) : RV :=
 bd (rBox (List.length m) 0 [t0] (m ++ [.free])) fun r2 =>
 bd (rLoadA 9 [r2.1] r2.2) fun r3 =>
 bd (rCallc O bond_Check [r3.1] r3.2) fun r4 =>
 bd (rEqN true true [r4.1, .nili] r4.2) fun r5 =>
 dCond r5.1
 (bd (gc (List.length m) [(.int .i64 0), r4.1] r5.2) fun r6 => some (tupD r6))
 (bd (rLoadA 9 [r2.1] r5.2) fun r7 =>
 bd (rCallc O plan_place [r7.1, t1] r7.2) fun r8 =>
 bd (rExt 0 [r8.1] r8.2) fun r9 =>
 bd (rExt 1 [r8.1] r9.2) fun r10 =>
 bd (rNot [r10.1] r10.2) fun r11 =>
 bd (gop (wantsD r11.1 false) (rMov [t1] r11.2) r11.2) fun r12 =>
 bd (gop (wantsD r11.1 false) (rFadr 0 [r2.1] r12.2) r12.2) fun r13 =>
 bd (gop (wantsD r11.1 false) (rLoad1 [r13.1] r13.2) r13.2) fun r14 =>
 bd (gop (wantsD r11.1 false) (rBinI .leq [r12.1, r14.1] r14.2) r14.2) fun r15 =>
 bd (rPick [r11.1, .bool true, r15.1] r15.2) fun r16 =>
 dCond r16.1
 (bd (rCallc O fault_Of [.int .i64 4] r16.2) fun r17 =>
 bd (gc (List.length m) [(.int .i64 0), r17.1] r17.2) fun r18 => some (tupD r18))
 (bd (rLoadA 9 [r2.1] r16.2) fun r19 =>
 bd (rBinI .add [r9.1, .int .i64 1] r19.2) fun r20 =>
 bd (rCallc O plan_anchor [r19.1, r20.1] r20.2) fun r21 =>
 bd (rExt 0 [r21.1] r21.2) fun r22 =>
 bd (rExt 1 [r21.1] r22.2) fun r23 =>
 bd (rNot [r23.1] r23.2) fun r24 =>
 dCond r24.1
 (bd (rCallc O fault_Of [.int .i64 4] r24.2) fun r25 =>
 bd (gc (List.length m) [(.int .i64 0), r25.1] r25.2) fun r26 => some (tupD r26))
 (bd (gc (List.length m) [r22.1, (.nili)] r24.2) fun r27 => some (tupD r27))))
theorem S_plan_Quasi (O : Orc) (t0 t1 : D) (m : Mem) : f_plan_Quasi.step2 O [t0, t1] m = s_plan_Quasi O t0 t1 m := by kernel_rfl
def s_num_Int_Text (O : Orc) (t0 : D) (m : Mem) : RV :=
 bd (rCallc O num_Int_Sign [t0] m) fun r1 =>
 bd (rBinI .lss [r1.1, .int .i64 0] r1.2) fun r2 =>
 dCond r2.1
 (bd (rCallc O num_Int_Abs [t0] r2.2) fun r3 =>
 bd (rCallc O nat_Nat_Text [r3.1] r3.2) fun r4 =>
 bd (rBinS .add [.str [45], r4.1] r4.2) fun r5 =>
 bd (gc (List.length m) [r5.1] r5.2) fun r6 => some (tupD r6))
 (bd (rCallc O num_Int_Abs [t0] r2.2) fun r7 =>
 bd (rCallc O nat_Nat_Text [r7.1] r7.2) fun r8 =>
 bd (gc (List.length m) [r8.1] r8.2) fun r9 => some (tupD r9))
theorem S_num_Int_Text (O : Orc) (t0 : D) (m : Mem) : f_num_Int_Text.step2 O [t0] m = s_num_Int_Text O t0 m := by kernel_rfl
def s_plan_anchor (O : Orc) (t0 t1 : D) (m : Mem) : RV :=
 bd (rBox (List.length m) 0 [t0] (m ++ [.free])) fun r2 =>
 bd (rFadr 1 [r2.1] r2.2) fun r3 =>
 bd (rLoad1 [r3.1] r3.2) fun r4 =>
 bd (rNeg [t1] r4.2) fun r5 =>
 bd (rLoadA 9 [r2.1] r5.2) fun r6 =>
 bd (rCallc O bond_Months [r6.1] r6.2) fun r7 =>
 bd (rBinI .mul [r5.1, r7.1] r7.2) fun r8 =>
 bd (rFadr 7 [r2.1] r8.2) fun r9 =>
 bd (rLoad1 [r9.1] r9.2) fun r10 =>
 bd (rCallc O month_Add [r4.1, r8.1, r10.1] r10.2) fun r11 =>
 bd (rExt 0 [r11.1] r11.2) fun r12 =>
 bd (rExt 1 [r11.1] r12.2) fun r13 =>
 bd (rEqN false true [r13.1, .nili] r13.2) fun r14 =>
 bd (gc (List.length m) [r12.1, r14.1] r14.2) fun r15 => some (tupD r15)
theorem S_plan_anchor (O : Orc) (t0 t1 : D) (m : Mem) : f_plan_anchor.step2 O [t0, t1] m = s_plan_anchor O t0 t1 m := by kernel_rfl
def s_rat_Rat_Div (O : Orc) (t0 t1 : D) (m : Mem) : RV :=
 bd (rCallc O rat_Rat_Num [t0] m) fun r1 =>
 bd (rCallc O rat_Rat_Den [t1] r1.2) fun r2 =>
 bd (rCallc O num_Int_Mul [r1.1, r2.1] r2.2) fun r3 =>
 bd (rCallc O rat_Rat_Den [t0] r3.2) fun r4 =>
 bd (rCallc O rat_Rat_Num [t1] r4.2) fun r5 =>
 bd (rCallc O num_Int_Mul [r4.1, r5.1] r5.2) fun r6 =>
 bd (rCallc O rat_New [r3.1, r6.1] r6.2) fun r7 =>
 bd (rExt 0 [r7.1] r7.2) fun r8 =>
 bd (rExt 1 [r7.1] r8.2) fun r9 =>
 bd (gc (List.length m) [r8.1, r9.1] r9.2) fun r10 => some (tupD r10)
theorem S_rat_Rat_Div (O : Orc) (t0 t1 : D) (m : Mem) : f_rat_Rat_Div.step2 O [t0, t1] m = s_rat_Rat_Div O t0 t1 m := by kernel_rfl
def s_nat_Of (O : Orc) (t0 : D) (m : Mem) : RV :=
 bd (rBsl 1 [.int .u64 0] [(0, 1)] [t0] m) fun r1 =>
 bd (rCallc O nat_made [r1.1] r1.2) fun r2 =>
 bd (gc (List.length m) [r2.1] r2.2) fun r3 => some (tupD r3)
theorem S_nat_Of (O : Orc) (t0 : D) (m : Mem) : f_nat_Of.step2 O [t0] m = s_nat_Of O t0 m := by kernel_rfl
def s_num_Int_Abs (O : Orc) (t0 : D) (m : Mem) : RV :=
 bd (rEqP false [t0, .nilp] m) fun r1 =>
 bd (gop (wantsD r1.1 false) (rMov [t0] r1.2) r1.2) fun r2 =>
 bd (gop (wantsD r1.1 false) (rNilck [r2.1] r2.2) r2.2) fun r3 =>
 bd (gop (wantsD r1.1 false) (rFadr 1 [r3.1] r3.2) r3.2) fun r4 =>
 bd (gop (wantsD r1.1 false) (rLoad1 [r4.1] r4.2) r4.2) fun r5 =>
 bd (gop (wantsD r1.1 false) (rEqP false [r5.1, .nilp] r5.2) r5.2) fun r6 =>
 bd (rPick [r1.1, .bool true, r6.1] r6.2) fun r7 =>
 dCond r7.1
 (bd (rCallc O nat_Of [.int .u64 0] r7.2) fun r8 =>
 bd (gc (List.length m) [r8.1] r8.2) fun r9 => some (tupD r9))
 (bd (rNilck [t0] r7.2) fun r10 =>
 bd (rFadr 1 [r10.1] r10.2) fun r11 =>
 bd (rLoad1 [r11.1] r11.2) fun r12 =>
 bd (gc (List.length m) [r12.1] r12.2) fun r13 => some (tupD r13))
theorem S_num_Int_Abs (O : Orc) (t0 : D) (m : Mem) : f_num_Int_Abs.step2 O [t0] m = s_num_Int_Abs O t0 m := by kernel_rfl
def s_nat_Nat_Mul_b1 (O : Orc) (base : Nat) (t6 t7 t8 t9 t10 t26 t27 t28 t33 t34 t35 : D) (m : Mem) : Option (Ex × List D × Mem) :=
 bd (rBinI .lss [t35, t34] m) fun r1 =>
 dCond r1.1
 (bd (rIadr 1 [t33, t35] r1.2) fun r2 =>
 bd (rLoad1 [r2.1] r2.2) fun r3 =>
 bd (rCallc O bits_Mul64 [t9, r3.1] r3.2) fun r4 =>
 bd (rExt 0 [r4.1] r4.2) fun r5 =>
 bd (rExt 1 [r4.1] r5.2) fun r6 =>
 bd (rBinI .add [t8, t35] r6.2) fun r7 =>
 bd (rIadr 1 [t7, r7.1] r7.2) fun r8 =>
 bd (rLoad1 [r8.1] r8.2) fun r9 =>
 bd (rCallc O bits_Add64 [r6.1, r9.1, .int .u64 0] r9.2) fun r10 =>
 bd (rExt 0 [r10.1] r10.2) fun r11 =>
 bd (rExt 1 [r10.1] r11.2) fun r12 =>
 bd (rBinI .add [r5.1, r12.1] r12.2) fun r13 =>
 bd (rCallc O bits_Add64 [r11.1, t10, .int .u64 0] r13.2) fun r14 =>
 bd (rExt 0 [r14.1] r14.2) fun r15 =>
 bd (rExt 1 [r14.1] r15.2) fun r16 =>
 bd (rBinI .add [t8, t35] r16.2) fun r17 =>
 bd (rBinI .add [r13.1, r16.1] r17.2) fun r18 =>
 bd (rIadr 1 [t7, r17.1] r18.2) fun r19 =>
 bd (rStore 1 [r19.1, r15.1] r19.2) fun r20 =>
 bd (rBinI .add [t35, .int .i64 1] r20.2) fun r21 =>
 bd (gc base [t6, t7, t8, t9, r18.1, t26, t27, t28, t33, t34, r21.1] r21.2) fun r22 => O.loop [6, 7, 8, 9, 10, 26, 27, 28, 33, 34, 35] [6, 7, 8, 10, 26, 27, 28] nat_Nat_Mul_b1 base r22.1 r22.2)
 (bd (gc base [t6, t7, t8, t10, t26, t27, t28] r1.2) fun r23 => some ((.exit 2), r23.1, r23.2))
theorem S_nat_Nat_Mul_b1 (O : Orc) (base : Nat) (t6 t7 t8 t9 t10 t26 t27 t28 t33 t34 t35 : D) (m : Mem) : loopStep2 O [6, 7, 8, 9, 10, 26, 27, 28, 33, 34, 35] [6, 7, 8, 10, 26, 27, 28] nat_Nat_Mul_b1 base [t6, t7, t8, t9, t10, t26, t27, t28, t33, t34, t35] m = s_nat_Nat_Mul_b1 O base t6 t7 t8 t9 t10 t26 t27 t28 t33 t34 t35 m := by kernel_rfl
def s_nat_Nat_Mul_b2 (O : Orc) (base : Nat) (t6 t7 t26 t27 t28 : D) (m : Mem) : Option (Ex × List D × Mem) :=
 bd (rBinI .lss [t28, t27] m) fun r1 =>
 dCond r1.1
 (bd (rIadr 1 [t26, t28] r1.2) fun r2 =>
 bd (rLoad1 [r2.1] r2.2) fun r3 =>
 bd (rLenL [t6] r3.2) fun r4 =>
 jn (O.loop [6, 7, 8, 9, 10, 26, 27, 28, 33, 34, 35] [6, 7, 8, 10, 26, 27, 28] nat_Nat_Mul_b1 (List.length r4.2) [t6, t7, t28, r3.1, (.int .u64 0), t26, t27, t28, t6, r4.1, (.int .i64 0)] r4.2) fun r5 =>
 exM (blkX 2 r5.1)
 (bd (rLenL [(hd r5.2.1)] r5.2.2) fun r7 =>
 bd (rBinI .add [(hd (tl (tl r5.2.1))), r7.1] r7.2) fun r8 =>
 bd (rIadr 1 [(hd (tl r5.2.1)), r8.1] r8.2) fun r9 =>
 bd (rStore 1 [r9.1, (hd (tl (tl (tl r5.2.1))))] r9.2) fun r10 =>
 bd (rBinI .add [(hd (tl (tl (tl (tl (tl (tl r5.2.1))))))), .int .i64 1] r10.2) fun r11 =>
 bd (gc base [(hd r5.2.1), (hd (tl r5.2.1)), (hd (tl (tl (tl (tl r5.2.1))))), (hd (tl (tl (tl (tl (tl r5.2.1)))))), r11.1] r11.2) fun r12 => O.loop [6, 7, 26, 27, 28] [7] nat_Nat_Mul_b2 base r12.1 r12.2)
 (fun i6 => exM (blkX 1 (.exit i6))
 (bd (rBinI .add [(hd (tl (tl (tl (tl (tl (tl r5.2.1))))))), .int .i64 1] r5.2.2) fun r14 =>
 bd (gc base [(hd r5.2.1), (hd (tl r5.2.1)), (hd (tl (tl (tl (tl r5.2.1))))), (hd (tl (tl (tl (tl (tl r5.2.1)))))), r14.1] r14.2) fun r15 => O.loop [6, 7, 26, 27, 28] [7] nat_Nat_Mul_b2 base r15.1 r15.2)
 (fun i13 => bd (gc base [(hd (tl r5.2.1))] r5.2.2) fun r16 => some ((.exit i13), r16.1, r16.2))
 (bd (gc base [(hd (tl r5.2.1))] r5.2.2) fun r17 => some (.ret, r17.1, r17.2)))
 (bd (gc base [(hd (tl r5.2.1))] r5.2.2) fun r18 => some (.ret, r18.1, r18.2)))
 (bd (gc base [t7] r1.2) fun r19 => some ((.exit 0), r19.1, r19.2))
theorem S_nat_Nat_Mul_b2 (O : Orc) (base : Nat) (t6 t7 t26 t27 t28 : D) (m : Mem) : loopStep2 O [6, 7, 26, 27, 28] [7] nat_Nat_Mul_b2 base [t6, t7, t26, t27, t28] m = s_nat_Nat_Mul_b2 O base t6 t7 t26 t27 t28 m := by kernel_rfl
def s_nat_Nat_Mul (O : Orc) (t0 t1 : D) (m : Mem) : RV :=
 bd (rCallc O nat_Nat_limbs [t0] m) fun r1 =>
 bd (rCallc O nat_Nat_limbs [t1] r1.2) fun r2 =>
 bd (rLenL [r1.1] (r2.2 ++ [.free])) fun r4 =>
 bd (rLenL [r2.1] r4.2) fun r5 =>
 bd (rBinI .add [r4.1, r5.1] r5.2) fun r6 =>
 bd (rMksl (List.length r2.2) 0 1 [.int .u64 0] [r6.1, r6.1] r6.2) fun r7 =>
 bd (rLenL [r1.1] r7.2) fun r8 =>
 jn (O.loop [6, 7, 26, 27, 28] [7] nat_Nat_Mul_b2 (List.length r8.2) [r2.1, r7.1, r1.1, r8.1, (.int .i64 0)] r8.2) fun r9 =>
 exM (blkX 0 r9.1)
 (bd (rCallp O nat_made [(hd r9.2.1)] r9.2.2) fun r11 =>
 bd (gc (List.length m) [r11.1] r11.2) fun r12 => some (tupD r12))
 (fun i10 => none)
 (none)
theorem S_nat_Nat_Mul (O : Orc) (t0 t1 : D) (m : Mem) : f_nat_Nat_Mul.step2 O [t0, t1] m = s_nat_Nat_Mul O t0 t1 m := by kernel_rfl
def s_nat_Nat_Add_b1 (O : Orc) (base : Nat) (t5 t6 t7 t8 t27 t28 : D) (m : Mem) : Option (Ex × List D × Mem) :=
 bd (rBinI .lss [t28, t27] m) fun r1 =>
 dCond r1.1
 (jn (bd (rLenL [t6] r1.2) fun r2 =>
 bd (rBinI .lss [t28, r2.1] r2.2) fun r3 =>
 jn (dCond r3.1
 (bd (rIadr 1 [t6, t28] r3.2) fun r4 =>
 bd (rLoad1 [r4.1] r4.2) fun r5 =>
 some (.normal, [t5, t6, t7, t8, t28, r5.1, t27, t28], r5.2))
 (some (.normal, [t5, t6, t7, t8, t28, (.int .u64 0), t27, t28], r3.2))) fun r6 =>
 exM r6.1
 (bd (rIadr 1 [(hd r6.2.1), (hd (tl (tl (tl (tl r6.2.1)))))] r6.2.2) fun r8 =>
 bd (rLoad1 [r8.1] r8.2) fun r9 =>
 bd (rCallc O bits_Add64 [r9.1, (hd (tl (tl (tl (tl (tl r6.2.1)))))), (hd (tl (tl (tl r6.2.1))))] r9.2) fun r10 =>
 bd (rExt 0 [r10.1] r10.2) fun r11 =>
 bd (rExt 1 [r10.1] r11.2) fun r12 =>
 bd (rIadr 1 [(hd (tl (tl r6.2.1))), (hd (tl (tl (tl (tl r6.2.1)))))] r12.2) fun r13 =>
 bd (rStore 1 [r13.1, r11.1] r13.2) fun r14 =>
 some (.normal, [(hd r6.2.1), (hd (tl r6.2.1)), (hd (tl (tl r6.2.1))), r12.1, (hd (tl (tl (tl (tl (tl (tl r6.2.1))))))), (hd (tl (tl (tl (tl (tl (tl (tl r6.2.1))))))))], r14.2))
 (fun i7 => some ((blkX 1 (.exit i7)), [(hd r6.2.1), (hd (tl r6.2.1)), (hd (tl (tl r6.2.1))), (hd (tl (tl (tl r6.2.1)))), (hd (tl (tl (tl (tl (tl (tl r6.2.1))))))), (hd (tl (tl (tl (tl (tl (tl (tl r6.2.1))))))))], r6.2.2))
 (some (.ret, [(hd r6.2.1), (hd (tl r6.2.1)), (hd (tl (tl r6.2.1))), (hd (tl (tl (tl r6.2.1)))), (hd (tl (tl (tl (tl (tl (tl r6.2.1))))))), (hd (tl (tl (tl (tl (tl (tl (tl r6.2.1))))))))], r6.2.2))) fun r15 =>
 exM r15.1
 (bd (rBinI .add [(hd (tl (tl (tl (tl (tl r15.2.1)))))), .int .i64 1] r15.2.2) fun r17 =>
 bd (gc base [(hd r15.2.1), (hd (tl r15.2.1)), (hd (tl (tl r15.2.1))), (hd (tl (tl (tl r15.2.1)))), (hd (tl (tl (tl (tl r15.2.1))))), r17.1] r17.2) fun r18 => O.loop [5, 6, 7, 8, 27, 28] [5, 7, 8] nat_Nat_Add_b1 base r18.1 r18.2)
 (fun i16 => bd (gc base [(hd r15.2.1), (hd (tl (tl r15.2.1))), (hd (tl (tl (tl r15.2.1))))] r15.2.2) fun r19 => some ((.exit i16), r19.1, r19.2))
 (bd (gc base [(hd r15.2.1), (hd (tl (tl r15.2.1))), (hd (tl (tl (tl r15.2.1))))] r15.2.2) fun r20 => some (.ret, r20.1, r20.2)))
 (bd (gc base [t5, t7, t8] r1.2) fun r21 => some ((.exit 0), r21.1, r21.2))
theorem S_nat_Nat_Add_b1 (O : Orc) (base : Nat) (t5 t6 t7 t8 t27 t28 : D) (m : Mem) : loopStep2 O [5, 6, 7, 8, 27, 28] [5, 7, 8] nat_Nat_Add_b1 base [t5, t6, t7, t8, t27, t28] m = s_nat_Nat_Add_b1 O base t5 t6 t7 t8 t27 t28 m := by kernel_rfl
def s_nat_Nat_Add (O : Orc) (t0 t1 : D) (m : Mem) : RV :=
 bd (rCallc O nat_Nat_limbs [t0] m) fun r1 =>
 bd (rCallc O nat_Nat_limbs [t1] r1.2) fun r2 =>
 bd (rLenL [r1.1] r2.2) fun r3 =>
 bd (rLenL [r2.1] r3.2) fun r4 =>
 bd (rBinI .lss [r3.1, r4.1] r4.2) fun r5 =>
 jn (dCond r5.1
 (some (.normal, [r2.1, r1.1], r5.2))
 (some (.normal, [r1.1, r2.1], r5.2))) fun r6 =>
 exM r6.1
 (bd (rLenL [(hd r6.2.1)] (r6.2.2 ++ [.free])) fun r9 =>
 bd (rBinI .add [r9.1, .int .i64 1] r9.2) fun r10 =>
 bd (rMksl (List.length r6.2.2) 0 1 [.int .u64 0] [r10.1, r10.1] r10.2) fun r11 =>
 bd (rLenL [(hd r6.2.1)] r11.2) fun r12 =>
 jn (O.loop [5, 6, 7, 8, 27, 28] [5, 7, 8] nat_Nat_Add_b1 (List.length r12.2) [(hd r6.2.1), (hd (tl r6.2.1)), r11.1, (.int .u64 0), r12.1, (.int .i64 0)] r12.2) fun r13 =>
 exM (blkX 0 r13.1)
 (bd (rLenL [(hd r13.2.1)] r13.2.2) fun r15 =>
 bd (rIadr 1 [(hd (tl r13.2.1)), r15.1] r15.2) fun r16 =>
 bd (rStore 1 [r16.1, (hd (tl (tl r13.2.1)))] r16.2) fun r17 =>
 bd (rCallp O nat_made [(hd (tl r13.2.1))] r17.2) fun r18 =>
 bd (gc (List.length m) [r18.1] r18.2) fun r19 => some (tupD r19))
 (fun i14 => none)
 (none))
 (fun i7 => none)
 (none)
theorem S_nat_Nat_Add (O : Orc) (t0 t1 : D) (m : Mem) : f_nat_Nat_Add.step2 O [t0, t1] m = s_nat_Nat_Add O t0 t1 m := by kernel_rfl
def s_nat_Nat_Cmp (O : Orc) (t0 t1 : D) (m : Mem) : RV :=
 bd (rCallc O nat_Nat_limbs [t0] m) fun r1 =>
 bd (rCallc O nat_Nat_limbs [t1] r1.2) fun r2 =>
 bd (rCallc O nat_compare [r1.1, r2.1] r2.2) fun r3 =>
 bd (gc (List.length m) [r3.1] r3.2) fun r4 => some (tupD r4)
theorem S_nat_Nat_Cmp (O : Orc) (t0 t1 : D) (m : Mem) : f_nat_Nat_Cmp.step2 O [t0, t1] m = s_nat_Nat_Cmp O t0 t1 m := by kernel_rfl
def s_nat_Nat_Sub_b1 (O : Orc) (base : Nat) (t6 t7 t8 t9 t25 t26 : D) (m : Mem) : Option (Ex × List D × Mem) :=
 bd (rBinI .lss [t26, t25] m) fun r1 =>
 dCond r1.1
 (jn (bd (rLenL [t7] r1.2) fun r2 =>
 bd (rBinI .lss [t26, r2.1] r2.2) fun r3 =>
 jn (dCond r3.1
 (bd (rIadr 1 [t7, t26] r3.2) fun r4 =>
 bd (rLoad1 [r4.1] r4.2) fun r5 =>
 some (.normal, [t6, t7, t8, t9, t26, r5.1, t25, t26], r5.2))
 (some (.normal, [t6, t7, t8, t9, t26, (.int .u64 0), t25, t26], r3.2))) fun r6 =>
 exM r6.1
 (bd (rIadr 1 [(hd r6.2.1), (hd (tl (tl (tl (tl r6.2.1)))))] r6.2.2) fun r8 =>
 bd (rLoad1 [r8.1] r8.2) fun r9 =>
 bd (rCallc O bits_Sub64 [r9.1, (hd (tl (tl (tl (tl (tl r6.2.1)))))), (hd (tl (tl (tl r6.2.1))))] r9.2) fun r10 =>
 bd (rExt 0 [r10.1] r10.2) fun r11 =>
 bd (rExt 1 [r10.1] r11.2) fun r12 =>
 bd (rIadr 1 [(hd (tl (tl r6.2.1))), (hd (tl (tl (tl (tl r6.2.1)))))] r12.2) fun r13 =>
 bd (rStore 1 [r13.1, r11.1] r13.2) fun r14 =>
 some (.normal, [(hd r6.2.1), (hd (tl r6.2.1)), (hd (tl (tl r6.2.1))), r12.1, (hd (tl (tl (tl (tl (tl (tl r6.2.1))))))), (hd (tl (tl (tl (tl (tl (tl (tl r6.2.1))))))))], r14.2))
 (fun i7 => some ((blkX 1 (.exit i7)), [(hd r6.2.1), (hd (tl r6.2.1)), (hd (tl (tl r6.2.1))), (hd (tl (tl (tl r6.2.1)))), (hd (tl (tl (tl (tl (tl (tl r6.2.1))))))), (hd (tl (tl (tl (tl (tl (tl (tl r6.2.1))))))))], r6.2.2))
 (some (.ret, [(hd r6.2.1), (hd (tl r6.2.1)), (hd (tl (tl r6.2.1))), (hd (tl (tl (tl r6.2.1)))), (hd (tl (tl (tl (tl (tl (tl r6.2.1))))))), (hd (tl (tl (tl (tl (tl (tl (tl r6.2.1))))))))], r6.2.2))) fun r15 =>
 exM r15.1
 (bd (rBinI .add [(hd (tl (tl (tl (tl (tl r15.2.1)))))), .int .i64 1] r15.2.2) fun r17 =>
 bd (gc base [(hd r15.2.1), (hd (tl r15.2.1)), (hd (tl (tl r15.2.1))), (hd (tl (tl (tl r15.2.1)))), (hd (tl (tl (tl (tl r15.2.1))))), r17.1] r17.2) fun r18 => O.loop [6, 7, 8, 9, 25, 26] [8] nat_Nat_Sub_b1 base r18.1 r18.2)
 (fun i16 => bd (gc base [(hd (tl (tl r15.2.1)))] r15.2.2) fun r19 => some ((.exit i16), r19.1, r19.2))
 (bd (gc base [(hd (tl (tl r15.2.1)))] r15.2.2) fun r20 => some (.ret, r20.1, r20.2)))
 (bd (gc base [t8] r1.2) fun r21 => some ((.exit 0), r21.1, r21.2))
theorem S_nat_Nat_Sub_b1 (O : Orc) (base : Nat) (t6 t7 t8 t9 t25 t26 : D) (m : Mem) : loopStep2 O [6, 7, 8, 9, 25, 26] [8] nat_Nat_Sub_b1 base [t6, t7, t8, t9, t25, t26] m = s_nat_Nat_Sub_b1 O base t6 t7 t8 t9 t25 t26 m := by kernel_rfl
def s_nat_Nat_Sub (O : Orc) (t0 t1 : D) (m : Mem) : RV :=
 bd (rCallc O nat_Nat_limbs [t0] m) fun r1 =>
 bd (rCallc O nat_Nat_limbs [t1] r1.2) fun r2 =>
 bd (rCallc O nat_compare [r1.1, r2.1] r2.2) fun r3 =>
 bd (rBinI .lss [r3.1, .int .i64 0] r3.2) fun r4 =>
 dCond r4.1
 (bd (rCallc O fault_Of [.int .i64 2] r4.2) fun r5 =>
 bd (gc (List.length m) [(.nilp), r5.1] r5.2) fun r6 => some (tupD r6))
 (bd (rLenL [r1.1] (r4.2 ++ [.free])) fun r8 =>
 bd (rMksl (List.length r4.2) 0 1 [.int .u64 0] [r8.1, r8.1] r8.2) fun r9 =>
 bd (rLenL [r1.1] r9.2) fun r10 =>
 jn (O.loop [6, 7, 8, 9, 25, 26] [8] nat_Nat_Sub_b1 (List.length r10.2) [r1.1, r2.1, r9.1, (.int .u64 0), r10.1, (.int .i64 0)] r10.2) fun r11 =>
 exM (blkX 0 r11.1)
 (bd (rCallp O nat_made [(hd r11.2.1)] r11.2.2) fun r13 =>
 bd (gc (List.length m) [r13.1, (.nili)] r13.2) fun r14 => some (tupD r14))
 (fun i12 => none)
 (none))
theorem S_nat_Nat_Sub (O : Orc) (t0 t1 : D) (m : Mem) : f_nat_Nat_Sub.step2 O [t0, t1] m = s_nat_Nat_Sub O t0 t1 m := by kernel_rfl
end Go.Ev.Code
end
section
set_option linter.unusedVariables false
namespace Go.Ev.Code
open Go Go.Ev
set_option maxRecDepth 100000
def s_nat_Nat_Gcd (O : Orc) (t0 t1 : D) (m : Mem) : RV :=
 bd (rCallc O nat_Nat_Cmp [t0, t1] m) fun r1 =>
 bd (rBinI .lss [r1.1, .int .i64 0] r1.2) fun r2 =>
 jn (dCond r2.1
 (some (.normal, [t1, t0], r2.2))
 (some (.normal, [t0, t1], r2.2))) fun r3 =>
 exM r3.1
 (bd (rCallc O nat_Nat_Zero [(hd (tl r3.2.1))] r3.2.2) fun r5 =>
 dCond r5.1
 (bd (rCallc O nat_Nat_limbs [(hd r3.2.1)] r5.2) fun r6 =>
 bd (rCallc O nat_made [r6.1] r6.2) fun r7 =>
 bd (gc (List.length m) [r7.1] r7.2) fun r8 => some (tupD r8))
 (bd (rCallc O nat_Nat_Div [(hd r3.2.1), (hd (tl r3.2.1))] r5.2) fun r9 =>
 bd (rExt 0 [r9.1] r9.2) fun r10 =>
 bd (rExt 1 [r9.1] r10.2) fun r11 =>
 bd (rExt 2 [r9.1] r11.2) fun r12 =>
 bd (rCallc O nat_Nat_Zero [r11.1] r12.2) fun r13 =>
 dCond r13.1
 (bd (rCallc O nat_Nat_limbs [(hd (tl r3.2.1))] r13.2) fun r14 =>
 bd (rCallc O nat_made [r14.1] r14.2) fun r15 =>
 bd (gc (List.length m) [r15.1] r15.2) fun r16 => some (tupD r16))
 (bd (rCallc O nat_Nat_limbs [(hd (tl r3.2.1))] r13.2) fun r17 =>
 bd (rCallc O nat_Nat_limbs [r11.1] r17.2) fun r18 =>
 bd (rCallc O nat_common [r17.1, r18.1] r18.2) fun r19 =>
 bd (gc (List.length m) [r19.1] r19.2) fun r20 => some (tupD r20))))
 (fun i4 => none)
 (none)
theorem S_nat_Nat_Gcd (O : Orc) (t0 t1 : D) (m : Mem) : f_nat_Nat_Gcd.step2 O [t0, t1] m = s_nat_Nat_Gcd O t0 t1 m := by kernel_rfl
def s_nat_Nat_Div (O : Orc) (t0 t1 : D) (m : Mem) : RV :=
 bd (rCallc O nat_Nat_limbs [t0] m) fun r1 =>
 bd (rCallc O nat_Nat_limbs [t1] r1.2) fun r2 =>
 bd (rLenL [r2.1] r2.2) fun r3 =>
 bd (rBinI .eql [r3.1, .int .i64 0] r3.2) fun r4 =>
 dCond r4.1
 (bd (rCallc O fault_Of [.int .i64 3] r4.2) fun r5 =>
 bd (gc (List.length m) [(.nilp), (.nilp), r5.1] r5.2) fun r6 => some (tupD r6))
 (bd (rCallc O nat_compare [r1.1, r2.1] r4.2) fun r7 =>
 bd (rBinI .lss [r7.1, .int .i64 0] r7.2) fun r8 =>
 dCond r8.1
 (bd (rCallc O nat_Of [.int .u64 0] r8.2) fun r9 =>
 bd (rCallc O nat_made [r1.1] r9.2) fun r10 =>
 bd (gc (List.length m) [r9.1, r10.1, (.nili)] r10.2) fun r11 => some (tupD r11))
 (bd (rLenL [r2.1] r8.2) fun r12 =>
 bd (rBinI .eql [r12.1, .int .i64 1] r12.2) fun r13 =>
 dCond r13.1
 (bd (rIadr 1 [r2.1, .int .i64 0] r13.2) fun r14 =>
 bd (rLoad1 [r14.1] r14.2) fun r15 =>
 bd (rCallc O nat_short [r1.1, r15.1] r15.2) fun r16 =>
 bd (rExt 0 [r16.1] r16.2) fun r17 =>
 bd (rExt 1 [r16.1] r17.2) fun r18 =>
 bd (rCallc O nat_made [r17.1] r18.2) fun r19 =>
 bd (rCallc O nat_Of [r18.1] r19.2) fun r20 =>
 bd (gc (List.length m) [r19.1, r20.1, (.nili)] r20.2) fun r21 => some (tupD r21))
 (bd (rCallc O nat_long [r1.1, r2.1] r13.2) fun r22 =>
 bd (rExt 0 [r22.1] r22.2) fun r23 =>
 bd (rExt 1 [r22.1] r23.2) fun r24 =>
 bd (rCallc O nat_made [r23.1] r24.2) fun r25 =>
 bd (rCallc O nat_made [r24.1] r25.2) fun r26 =>
 bd (gc (List.length m) [r25.1, r26.1, (.nili)] r26.2) fun r27 => some (tupD r27))))
theorem S_nat_Nat_Div (O : Orc) (t0 t1 : D) (m : Mem) : f_nat_Nat_Div.step2 O [t0, t1] m = s_nat_Nat_Div O t0 t1 m := by kernel_rfl
def s_dec_ten (O : Orc) (t0 : D) (m : Mem) : RV :=
 bd (rCallc O nat_Of [.int .u64 10] m) fun r1 =>
 bd (rCallc O nat_Nat_Pow [r1.1, t0] r1.2) fun r2 =>
 bd (rCallc O num_New [.bool false, r2.1] r2.2) fun r3 =>
 bd (gc (List.length m) [r3.1] r3.2) fun r4 => some (tupD r4)
theorem S_dec_ten (O : Orc) (t0 : D) (m : Mem) : f_dec_ten.step2 O [t0] m = s_dec_ten O t0 m := by kernel_rfl
def s_date_Weekday (O : Orc) (t0 : D) (m : Mem) : RV :=
 bd (rCallc O date_is [t0] m) fun r1 =>
 bd (rNot [r1.1] r1.2) fun r2 =>
 dCond r2.1
 (bd (gc (List.length m) [(.int .i64 (-1))] r2.2) fun r3 => some (tupD r3))
 (bd (rBinI .add [t0, .int .i64 1] r2.2) fun r4 =>
 bd (rBinI .rem [r4.1, .int .i64 7] r4.2) fun r5 =>
 bd (gc (List.length m) [r5.1] r5.2) fun r6 => some (tupD r6))
theorem S_date_Weekday (O : Orc) (t0 : D) (m : Mem) : f_date_Weekday.step2 O [t0] m = s_date_Weekday O t0 m := by kernel_rfl
def s_month_Add (O : Orc) (t0 t1 t2 : D) (m : Mem) : RV :=
 bd (rCallc O date_Civil [t0] (m ++ [.free])) fun r2 =>
 bd (rExt 0 [r2.1] r2.2) fun r3 =>
 bd (rExt 1 [r2.1] r3.2) fun r4 =>
 bd (rAlloc (List.length m) 0 [.int .i64 0, .int .i64 0, .int .i64 0] [] r4.2) fun r5 =>
 bd (rStore 3 [r5.1, r3.1] r5.2) fun r6 =>
 bd (rEqN true true [r4.1, .nili] r6.2) fun r7 =>
 dCond r7.1
 (bd (gc (List.length m) [(.int .i64 0), r4.1] r7.2) fun r8 => some (tupD r8))
 (bd (rBinI .lss [t1, .int .i64 (-3600)] r7.2) fun r9 =>
 bd (gop (wantsD r9.1 false) (rMov [t1] r9.2) r9.2) fun r10 =>
 bd (gop (wantsD r9.1 false) (rBinI .gtr [r10.1, .int .i64 3600] r10.2) r10.2) fun r11 =>
 bd (rPick [r9.1, .bool true, r11.1] r11.2) fun r12 =>
 dCond r12.1
 (bd (rCallc O fault_Of [.int .i64 4] r12.2) fun r13 =>
 bd (gc (List.length m) [(.int .i64 0), r13.1] r13.2) fun r14 => some (tupD r14))
 (bd (rFadr 0 [r5.1] r12.2) fun r15 =>
 bd (rLoad1 [r15.1] r15.2) fun r16 =>
 bd (rBinI .mul [r16.1, .int .i64 12] r16.2) fun r17 =>
 bd (rFadr 1 [r5.1] r17.2) fun r18 =>
 bd (rLoad1 [r18.1] r18.2) fun r19 =>
 bd (rBinI .add [r17.1, r19.1] r19.2) fun r20 =>
 bd (rBinI .sub [r20.1, .int .i64 1] r20.2) fun r21 =>
 bd (rBinI .add [r21.1, t1] r21.2) fun r22 =>
 bd (rBinI .quo [r22.1, .int .i64 12] r22.2) fun r23 =>
 bd (rBinI .rem [r22.1, .int .i64 12] r23.2) fun r24 =>
 bd (rBinI .add [r24.1, .int .i64 1] r24.2) fun r25 =>
 bd (gop (wantsD t2 true) (rMov [t0] r25.2) r25.2) fun r26 =>
 bd (gop (wantsD t2 true) (rCallc O month_Last [r26.1] r26.2) r26.2) fun r27 =>
 bd (rPick [t2, r27.1, .bool false] r27.2) fun r28 =>
 dCond r28.1
 (bd (rCallc O month_End [r23.1, r25.1] r28.2) fun r29 =>
 bd (rExt 0 [r29.1] r29.2) fun r30 =>
 bd (rExt 1 [r29.1] r30.2) fun r31 =>
 bd (gc (List.length m) [r30.1, r31.1] r31.2) fun r32 => some (tupD r32))
 (bd (rFadr 2 [r5.1] r28.2) fun r33 =>
 bd (rLoad1 [r33.1] r33.2) fun r34 =>
 bd (rCallc O date_Length [r23.1, r25.1] r34.2) fun r35 =>
 bd (rMn [r34.1, r35.1] r35.2) fun r36 =>
 bd (rBuild [.int .i64 0, .int .i64 0, .int .i64 0] [(0, 1), (1, 1), (2, 1)] [r23.1, r25.1, r36.1] r36.2) fun r37 =>
 bd (rCallc O date_Of [r37.1] r37.2) fun r38 =>
 bd (rExt 0 [r38.1] r38.2) fun r39 =>
 bd (rExt 1 [r38.1] r39.2) fun r40 =>
 bd (gc (List.length m) [r39.1, r40.1] r40.2) fun r41 => some (tupD r41))))
theorem S_month_Add (O : Orc) (t0 t1 t2 : D) (m : Mem) : f_month_Add.step2 O [t0, t1, t2] m = s_month_Add O t0 t1 t2 m := by kernel_rfl
def s_nat_Nat_limbs (O : Orc) (t0 : D) (m : Mem) : RV :=
 bd (rEqP false [t0, .nilp] m) fun r1 =>
 dCond r1.1
 (bd (gc (List.length m) [(.sl 0 [])] r1.2) fun r2 => some (tupD r2))
 (bd (rNilck [t0] r1.2) fun r3 =>
 bd (rFadr 0 [r3.1] r3.2) fun r4 =>
 bd (rLoad1 [r4.1] r4.2) fun r5 =>
 bd (gc (List.length m) [r5.1] r5.2) fun r6 => some (tupD r6))
theorem S_nat_Nat_limbs (O : Orc) (t0 : D) (m : Mem) : f_nat_Nat_limbs.step2 O [t0] m = s_nat_Nat_limbs O t0 m := by kernel_rfl
def s_num_Int_Sub (O : Orc) (t0 t1 : D) (m : Mem) : RV :=
 bd (rCallc O num_Int_Neg [t1] m) fun r1 =>
 bd (rCallc O num_Int_Add [t0, r1.1] r1.2) fun r2 =>
 bd (gc (List.length m) [r2.1] r2.2) fun r3 => some (tupD r3)
theorem S_num_Int_Sub (O : Orc) (t0 t1 : D) (m : Mem) : f_num_Int_Sub.step2 O [t0, t1] m = s_num_Int_Sub O t0 t1 m := by kernel_rfl
def s_date_before (O : Orc) (t0 : D) (m : Mem) : RV :=
 bd (rBinI .sub [t0, .int .i64 1] m) fun r1 =>
 bd (rBinI .sub [t0, .int .i64 1900] r1.2) fun r2 =>
 bd (rBinI .mul [.int .i64 365, r2.1] r2.2) fun r3 =>
 bd (rBinI .quo [r1.1, .int .i64 4] r3.2) fun r4 =>
 bd (rBinI .quo [r1.1, .int .i64 100] r4.2) fun r5 =>
 bd (rBinI .sub [r4.1, r5.1] r5.2) fun r6 =>
 bd (rBinI .quo [r1.1, .int .i64 400] r6.2) fun r7 =>
 bd (rBinI .add [r6.1, r7.1] r7.2) fun r8 =>
 bd (rBinI .add [r3.1, r8.1] r8.2) fun r9 =>
 bd (rBinI .quo [(.int .i64 1899), .int .i64 4] r9.2) fun r10 =>
 bd (rBinI .quo [(.int .i64 1899), .int .i64 100] r10.2) fun r11 =>
 bd (rBinI .sub [r10.1, r11.1] r11.2) fun r12 =>
 bd (rBinI .quo [(.int .i64 1899), .int .i64 400] r12.2) fun r13 =>
 bd (rBinI .add [r12.1, r13.1] r13.2) fun r14 =>
 bd (rBinI .sub [r9.1, r14.1] r14.2) fun r15 =>
 bd (gc (List.length m) [r15.1] r15.2) fun r16 => some (tupD r16)
theorem S_date_before (O : Orc) (t0 : D) (m : Mem) : f_date_before.step2 O [t0] m = s_date_before O t0 m := by kernel_rfl
def s_date_Leap (O : Orc) (t0 : D) (m : Mem) : RV :=
 bd (rBinI .rem [t0, .int .i64 4] m) fun r1 =>
 bd (rBinI .eql [r1.1, .int .i64 0] r1.2) fun r2 =>
 bd (gop (wantsD r2.1 true) (rMov [t0] r2.2) r2.2) fun r3 =>
 bd (gop (wantsD r2.1 true) (rBinI .rem [r3.1, .int .i64 100] r3.2) r3.2) fun r4 =>
 bd (gop (wantsD r2.1 true) (rBinI .neq [r4.1, .int .i64 0] r4.2) r4.2) fun r5 =>
 bd (gop (wantsD r2.1 true) (rMov [r5.1] r5.2) r5.2) fun r6 =>
 bd (gop (wantsD r6.1 false) (rMov [t0] r6.2) r6.2) fun r7 =>
 bd (gop (wantsD r6.1 false) (rBinI .rem [r7.1, .int .i64 400] r7.2) r7.2) fun r8 =>
 bd (gop (wantsD r6.1 false) (rBinI .eql [r8.1, .int .i64 0] r8.2) r8.2) fun r9 =>
 bd (gop (wantsD r2.1 true) (rPick [r6.1, .bool true, r9.1] r9.2) r9.2) fun r10 =>
 bd (rPick [r2.1, r10.1, .bool false] r10.2) fun r11 =>
 bd (gc (List.length m) [r11.1] r11.2) fun r12 => some (tupD r12)
theorem S_date_Leap (O : Orc) (t0 : D) (m : Mem) : f_date_Leap.step2 O [t0] m = s_date_Leap O t0 m := by kernel_rfl
def s_date_is (O : Orc) (t0 : D) (m : Mem) : RV :=
 bd (rBinI .geq [t0, .int .i64 0] m) fun r1 =>
 bd (gop (wantsD r1.1 true) (rMov [t0] r1.2) r1.2) fun r2 =>
 bd (gop (wantsD r1.1 true) (rBinI .leq [r2.1, .int .i64 109572] r2.2) r2.2) fun r3 =>
 bd (rPick [r1.1, r3.1, .bool false] r3.2) fun r4 =>
 bd (gc (List.length m) [r4.1] r4.2) fun r5 => some (tupD r5)
theorem S_date_is (O : Orc) (t0 : D) (m : Mem) : f_date_is.step2 O [t0] m = s_date_is O t0 m := by kernel_rfl
def s_plan_place_b1 (O : Orc) (base : Nat) (t1 t2 t6 : D) (m : Mem) : Option (Ex × List D × Mem) :=
 bd (rLoadA 9 [t2] m) fun r1 =>
 bd (rCallc O plan_anchor [r1.1, t6] r1.2) fun r2 =>
 bd (rExt 0 [r2.1] r2.2) fun r3 =>
 bd (rExt 1 [r2.1] r3.2) fun r4 =>
 bd (rNot [r4.1] r4.2) fun r5 =>
 bd (gop (wantsD r5.1 false) (rMov [r3.1] r5.2) r5.2) fun r6 =>
 bd (gop (wantsD r5.1 false) (rMov [t1] r6.2) r6.2) fun r7 =>
 bd (gop (wantsD r5.1 false) (rBinI .lss [r6.1, r7.1] r7.2) r7.2) fun r8 =>
 bd (rPick [r5.1, .bool true, r8.1] r8.2) fun r9 =>
 dCond r9.1
 (bd (gc base [(.int .i64 0), (.bool false)] r9.2) fun r10 => some (.ret, r10.1, r10.2))
 (bd (rBinI .eql [r3.1, t1] r9.2) fun r11 =>
 dCond r11.1
 (bd (gc base [t6, (.bool true)] r11.2) fun r12 => some (.ret, r12.1, r12.2))
 (bd (rBinI .add [t6, .int .i64 1] r11.2) fun r13 =>
 bd (gc base [t1, t2, r13.1] r13.2) fun r14 => O.loop [1, 2, 6] [4, 5] plan_place_b1 base r14.1 r14.2))
theorem S_plan_place_b1 (O : Orc) (base : Nat) (t1 t2 t6 : D) (m : Mem) : loopStep2 O [1, 2, 6] [4, 5] plan_place_b1 base [t1, t2, t6] m = s_plan_place_b1 O base t1 t2 t6 m := by kernel_rfl
def s_plan_place (O : Orc) (t0 t1 : D) (m : Mem) : RV :=
 bd (rBox (List.length m) 0 [t0] (m ++ [.free])) fun r2 =>
 jn (O.loop [1, 2, 6] [4, 5] plan_place_b1 (List.length r2.2) [t1, r2.1, (.int .i64 0)] r2.2) fun r3 =>
 exM (blkX 0 r3.1)
 (bd (gc (List.length m) [(hd r3.2.1), (hd (tl r3.2.1))] r3.2.2) fun r5 => some (tupD r5))
 (fun i4 => none)
 (bd (gc (List.length m) [(hd r3.2.1), (hd (tl r3.2.1))] r3.2.2) fun r6 => some (tupD r6))
theorem S_plan_place (O : Orc) (t0 t1 : D) (m : Mem) : f_plan_place.step2 O [t0, t1] m = s_plan_place O t0 t1 m := by kernel_rfl
def s_nat_Nat_Text_b1 (O : Orc) (base : Nat) (t3 t4 : D) (m : Mem) : Option (Ex × List D × Mem) :=
 bd (rLenL [t4] m) fun r1 =>
 bd (rBinI .gtr [r1.1, .int .i64 0] r1.2) fun r2 =>
 dCond r2.1
 (jn (bd (rCallp O nat_short [t4, .int .u64 1000000000000000000] r2.2) fun r3 =>
 bd (rExt 0 [r3.1] r3.2) fun r4 =>
 bd (rExt 1 [r3.1] r4.2) fun r5 =>
 bd (rCallp O nat_made [r4.1] r5.2) fun r6 =>
 bd (rNilck [r6.1] r6.2) fun r7 =>
 bd (rFadr 0 [r7.1] r7.2) fun r8 =>
 bd (rLoad1 [r8.1] r8.2) fun r9 =>
 bd (rCallc O strconv_FormatUint [r5.1, .int .i64 10] r9.2) fun r10 =>
 bd (rLenL [r9.1] r10.2) fun r11 =>
 bd (rBinI .gtr [r11.1, .int .i64 0] r11.2) fun r12 =>
 jn (dCond r12.1
 (bd (rLenS [r10.1] r12.2) fun r13 =>
 bd (rBinI .sub [.int .i64 18, r13.1] r13.2) fun r14 =>
 bd (rCallc O strings_Repeat [.str [48], r14.1] r14.2) fun r15 =>
 bd (rBinS .add [r15.1, r10.1] r15.2) fun r16 =>
 some (.normal, [t3, r9.1, r16.1], r16.2))
 (some (.normal, [t3, r9.1, r10.1], r12.2))) fun r17 =>
 exM r17.1
 (bd (rBsl 1 [.str []] [(0, 1)] [(hd (tl (tl r17.2.1)))] (r17.2.2 ++ [.free])) fun r20 =>
 bd (rApp (List.length r17.2.2) 0 1 [(hd r17.2.1), r20.1] r20.2) fun r21 =>
 some (.normal, [r21.1, (hd (tl r17.2.1))], r21.2))
 (fun i18 => some ((blkX 1 (.exit i18)), [(hd r17.2.1), (hd (tl r17.2.1))], r17.2.2))
 (some (.ret, [(hd r17.2.1), (hd (tl r17.2.1))], r17.2.2))) fun r22 =>
 exM r22.1
 (bd (gc base [(hd r22.2.1), (hd (tl r22.2.1))] r22.2.2) fun r24 => O.loop [3, 4] [3] nat_Nat_Text_b1 base r24.1 r24.2)
 (fun i23 => bd (gc base [(hd r22.2.1)] r22.2.2) fun r25 => some ((.exit i23), r25.1, r25.2))
 (bd (gc base [(hd r22.2.1)] r22.2.2) fun r26 => some (.ret, r26.1, r26.2)))
 (bd (gc base [t3] r2.2) fun r27 => some ((.exit 0), r27.1, r27.2))
theorem S_nat_Nat_Text_b1 (O : Orc) (base : Nat) (t3 t4 : D) (m : Mem) : loopStep2 O [3, 4] [3] nat_Nat_Text_b1 base [t3, t4] m = s_nat_Nat_Text_b1 O base t3 t4 m := by kernel_rfl
def s_nat_Nat_Text (O : Orc) (t0 : D) (m : Mem) : RV :=
 bd (rCallc O nat_Nat_limbs [t0] m) fun r1 =>
 bd (O.calla slices_Clone_uint64 [r1.1] r1.2) fun r2 =>
 jn (O.loop [3, 4] [3] nat_Nat_Text_b1 (List.length r2.2) [(.nils), r2.1] r2.2) fun r3 =>
 exM (blkX 0 r3.1)
 (bd (rLenL [(hd r3.2.1)] r3.2.2) fun r5 =>
 bd (rBinI .eql [r5.1, .int .i64 0] r5.2) fun r6 =>
 dCond r6.1
 (bd (gc (List.length m) [(.str [48])] r6.2) fun r7 => some (tupD r7))
 (bd (O.calla slices_Reverse_string [(hd r3.2.1)] r6.2) fun r8 =>
 bd (rCallp O strings_Join [(hd r3.2.1), .str []] r8.2) fun r9 =>
 bd (gc (List.length m) [r9.1] r9.2) fun r10 => some (tupD r10)))
 (fun i4 => none)
 (none)
theorem S_nat_Nat_Text (O : Orc) (t0 : D) (m : Mem) : f_nat_Nat_Text.step2 O [t0] m = s_nat_Nat_Text O t0 m := by kernel_rfl
def s_nat_made_b1 (O : Orc) (base : Nat) (t0 : D) (m : Mem) : Option (Ex × List D × Mem) :=
 bd (rLenL [t0] m) fun r1 =>
 bd (rBinI .gtr [r1.1, .int .i64 0] r1.2) fun r2 =>
 bd (gop (wantsD r2.1 true) (rMov [t0] r2.2) r2.2) fun r3 =>
 bd (gop (wantsD r2.1 true) (rMov [t0] r3.2) r3.2) fun r4 =>
 bd (gop (wantsD r2.1 true) (rLenL [r4.1] r4.2) r4.2) fun r5 =>
 bd (gop (wantsD r2.1 true) (rBinI .sub [r5.1, .int .i64 1] r5.2) r5.2) fun r6 =>
 bd (gop (wantsD r2.1 true) (rIadr 1 [r3.1, r6.1] r6.2) r6.2) fun r7 =>
 bd (gop (wantsD r2.1 true) (rLoad1 [r7.1] r7.2) r7.2) fun r8 =>
 bd (gop (wantsD r2.1 true) (rBinI .eql [r8.1, .int .u64 0] r8.2) r8.2) fun r9 =>
 bd (rPick [r2.1, r9.1, .bool false] r9.2) fun r10 =>
 dCond r10.1
 (bd (rLenL [t0] r10.2) fun r11 =>
 bd (rBinI .sub [r11.1, .int .i64 1] r11.2) fun r12 =>
 bd (rSlL 1 false true [t0, r12.1] r12.2) fun r13 =>
 bd (gc base [r13.1] r13.2) fun r14 => O.loop [0] [0] nat_made_b1 base r14.1 r14.2)
 (bd (gc base [t0] r10.2) fun r15 => some ((.exit 0), r15.1, r15.2))
theorem S_nat_made_b1 (O : Orc) (base : Nat) (t0 : D) (m : Mem) : loopStep2 O [0] [0] nat_made_b1 base [t0] m = s_nat_made_b1 O base t0 m := by kernel_rfl
def s_nat_made (O : Orc) (t0 : D) (m : Mem) : RV :=
 jn (O.loop [0] [0] nat_made_b1 (List.length m) [t0] m) fun r1 =>
 exM (blkX 0 r1.1)
 (bd (rBuild [.sl 0 []] [(0, 1)] [(hd r1.2.1)] (r1.2.2 ++ [.free])) fun r4 =>
 bd (rBox (List.length r1.2.2) 0 [r4.1] r4.2) fun r5 =>
 bd (gc (List.length m) [r5.1] r5.2) fun r6 => some (tupD r6))
 (fun i2 => none)
 (none)
theorem S_nat_made (O : Orc) (t0 : D) (m : Mem) : f_nat_made.step2 O [t0] m = s_nat_made O t0 m := by kernel_rfl
def s_nat_compare_b1 (O : Orc) (base : Nat) (t0 t1 t5 : D) (m : Mem) : Option (Ex × List D × Mem) :=
 bd (rBinI .geq [t5, .int .i64 0] m) fun r1 =>
 dCond r1.1
 (bd (rIadr 1 [t0, t5] r1.2) fun r2 =>
 bd (rLoad1 [r2.1] r2.2) fun r3 =>
 bd (rIadr 1 [t1, t5] r3.2) fun r4 =>
 bd (rLoad1 [r4.1] r4.2) fun r5 =>
 bd (rBinI .lss [r3.1, r5.1] r5.2) fun r6 =>
 dCond r6.1
 (bd (gc base [(.int .i64 (-1))] r6.2) fun r7 => some (.ret, r7.1, r7.2))
 (bd (rIadr 1 [t0, t5] r6.2) fun r8 =>
 bd (rLoad1 [r8.1] r8.2) fun r9 =>
 bd (rIadr 1 [t1, t5] r9.2) fun r10 =>
 bd (rLoad1 [r10.1] r10.2) fun r11 =>
 bd (rBinI .gtr [r9.1, r11.1] r11.2) fun r12 =>
 dCond r12.1
 (bd (gc base [(.int .i64 1)] r12.2) fun r13 => some (.ret, r13.1, r13.2))
 (bd (rBinI .sub [t5, .int .i64 1] r12.2) fun r14 =>
 bd (gc base [t0, t1, r14.1] r14.2) fun r15 => O.loop [0, 1, 5] [4] nat_compare_b1 base r15.1 r15.2)))
 (bd (gc base [.undef] r1.2) fun r16 => some ((.exit 0), r16.1, r16.2))
theorem S_nat_compare_b1 (O : Orc) (base : Nat) (t0 t1 t5 : D) (m : Mem) : loopStep2 O [0, 1, 5] [4] nat_compare_b1 base [t0, t1, t5] m = s_nat_compare_b1 O base t0 t1 t5 m := by kernel_rfl
def s_nat_compare (O : Orc) (t0 t1 : D) (m : Mem) : RV :=
 bd (rLenL [t0] m) fun r1 =>
 bd (rLenL [t1] r1.2) fun r2 =>
 bd (rBinI .neq [r1.1, r2.1] r2.2) fun r3 =>
 dCond r3.1
 (bd (rLenL [t0] r3.2) fun r4 =>
 bd (rLenL [t1] r4.2) fun r5 =>
 bd (rBinI .sub [r4.1, r5.1] r5.2) fun r6 =>
 bd (rMx [r6.1, .int .i64 (-1)] r6.2) fun r7 =>
 bd (rMn [r7.1, .int .i64 1] r7.2) fun r8 =>
 bd (gc (List.length m) [r8.1] r8.2) fun r9 => some (tupD r9))
 (bd (rLenL [t0] r3.2) fun r10 =>
 bd (rBinI .sub [r10.1, .int .i64 1] r10.2) fun r11 =>
 jn (O.loop [0, 1, 5] [4] nat_compare_b1 (List.length r11.2) [t0, t1, r11.1] r11.2) fun r12 =>
 exM (blkX 0 r12.1)
 (bd (gc (List.length m) [(.int .i64 0)] r12.2.2) fun r14 => some (tupD r14))
 (fun i13 => none)
 (bd (gc (List.length m) [(hd r12.2.1)] r12.2.2) fun r15 => some (tupD r15)))
theorem S_nat_compare (O : Orc) (t0 t1 : D) (m : Mem) : f_nat_compare.step2 O [t0, t1] m = s_nat_compare O t0 t1 m := by kernel_rfl
def s_nat_common_b1 (O : Orc) (base : Nat) (t0 t1 t5 : D) (m : Mem) : Option (Ex × List D × Mem) :=
 jn (bd (O.calla nat_compare [t0, t1] m) fun r1 =>
 jn (bd (rBinI .eql [r1.1, .int .i64 0] r1.2) fun r2 =>
 jn (dCond r2.1
 (bd (O.calla nat_made [t0] r2.2) fun r3 =>
 bd (rCallc O nat_bit [t5] r3.2) fun r4 =>
 bd (rCallp O nat_Nat_Mul [r3.1, r4.1] r4.2) fun r5 =>
 some (.ret, [t0, t1, r5.1, t5], r5.2))
 (bd (rBinI .eql [r1.1, .int .i64 (-1)] r2.2) fun r6 =>
 jn (dCond r6.1
 (some (.normal, [t1, t0, t5], r6.2))
 (some (.normal, [t0, t1, t5], r6.2))) fun r7 =>
 some (r7.1, [(hd r7.2.1), (hd (tl r7.2.1)), .undef, (hd (tl (tl r7.2.1)))], r7.2.2))) fun r8 =>
 some ((blkX 2 r8.1), [(hd r8.2.1), (hd (tl r8.2.1)), (hd (tl (tl r8.2.1))), (hd (tl (tl (tl r8.2.1))))], r8.2.2)) fun r9 =>
 exM r9.1
 (bd (O.calla nat_less [(hd r9.2.1), (hd (tl r9.2.1))] r9.2.2) fun r11 =>
 bd (O.calla nat_odd [r11.1] r11.2) fun r12 =>
 some (.normal, [r12.1, (hd (tl r9.2.1)), (hd (tl (tl r9.2.1))), (hd (tl (tl (tl r9.2.1))))], r12.2))
 (fun i10 => some ((blkX 1 (.exit i10)), [(hd r9.2.1), (hd (tl r9.2.1)), (hd (tl (tl r9.2.1))), (hd (tl (tl (tl r9.2.1))))], r9.2.2))
 (some (.ret, [(hd r9.2.1), (hd (tl r9.2.1)), (hd (tl (tl r9.2.1))), (hd (tl (tl (tl r9.2.1))))], r9.2.2))) fun r13 =>
 exM r13.1
 (bd (gc base [(hd r13.2.1), (hd (tl r13.2.1)), (hd (tl (tl (tl r13.2.1))))] r13.2.2) fun r15 => O.loop [0, 1, 5] [4] nat_common_b1 base r15.1 r15.2)
 (fun i14 => bd (gc base [(hd (tl (tl r13.2.1)))] r13.2.2) fun r16 => some ((.exit i14), r16.1, r16.2))
 (bd (gc base [(hd (tl (tl r13.2.1)))] r13.2.2) fun r17 => some (.ret, r17.1, r17.2))
theorem S_nat_common_b1 (O : Orc) (base : Nat) (t0 t1 t5 : D) (m : Mem) : loopStep2 O [0, 1, 5] [4] nat_common_b1 base [t0, t1, t5] m = s_nat_common_b1 O base t0 t1 t5 m := by kernel_rfl
def s_nat_common (O : Orc) (t0 t1 : D) (m : Mem) : RV :=
 bd (O.calla nat_twos [t0] m) fun r1 =>
 bd (O.calla nat_twos [t1] r1.2) fun r2 =>
 bd (rMn [r1.1, r2.1] r2.2) fun r3 =>
 bd (O.calla slices_Clone_uint64 [t0] r3.2) fun r4 =>
 bd (O.calla nat_odd [r4.1] r4.2) fun r5 =>
 bd (O.calla slices_Clone_uint64 [t1] r5.2) fun r6 =>
 bd (O.calla nat_odd [r6.1] r6.2) fun r7 =>
 jn (O.loop [0, 1, 5] [4] nat_common_b1 (List.length r7.2) [r5.1, r7.1, r3.1] r7.2) fun r8 =>
 exM (blkX 0 r8.1)
 (bd (gc (List.length m) [(hd r8.2.1)] r8.2.2) fun r10 => some (tupD r10))
 (fun i9 => none)
 (bd (gc (List.length m) [(hd r8.2.1)] r8.2.2) fun r11 => some (tupD r11))
theorem S_nat_common (O : Orc) (t0 t1 : D) (m : Mem) : f_nat_common.step2 O [t0, t1] m = s_nat_common O t0 t1 m := by kernel_rfl
def s_nat_short_b1 (O : Orc) (base : Nat) (t0 t1 t6 t7 t8 : D) (m : Mem) : Option (Ex × List D × Mem) :=
 bd (rBinI .geq [t8, .int .i64 0] m) fun r1 =>
 dCond r1.1
 (bd (rIadr 1 [t0, t8] r1.2) fun r2 =>
 bd (rLoad1 [r2.1] r2.2) fun r3 =>
 bd (rCallc O bits_Div64 [t7, r3.1, t1] r3.2) fun r4 =>
 bd (rExt 0 [r4.1] r4.2) fun r5 =>
 bd (rExt 1 [r4.1] r5.2) fun r6 =>
 bd (rIadr 1 [t6, t8] r6.2) fun r7 =>
 bd (rStore 1 [r7.1, r5.1] r7.2) fun r8 =>
 bd (rBinI .sub [t8, .int .i64 1] r8.2) fun r9 =>
 bd (gc base [t0, t1, t6, r6.1, r9.1] r9.2) fun r10 => O.loop [0, 1, 6, 7, 8] [6, 7] nat_short_b1 base r10.1 r10.2)
 (bd (gc base [t6, t7] r1.2) fun r11 => some ((.exit 0), r11.1, r11.2))
theorem S_nat_short_b1 (O : Orc) (base : Nat) (t0 t1 t6 t7 t8 : D) (m : Mem) : loopStep2 O [0, 1, 6, 7, 8] [6, 7] nat_short_b1 base [t0, t1, t6, t7, t8] m = s_nat_short_b1 O base t0 t1 t6 t7 t8 m := by kernel_rfl
def s_nat_short (O : Orc) (t0 t1 : D) (m : Mem) : RV :=
 bd (rLenL [t0] (m ++ [.free])) fun r2 =>
 bd (rMksl (List.length m) 0 1 [.int .u64 0] [r2.1, r2.1] r2.2) fun r3 =>
 bd (rLenL [t0] r3.2) fun r4 =>
 bd (rBinI .sub [r4.1, .int .i64 1] r4.2) fun r5 =>
 jn (O.loop [0, 1, 6, 7, 8] [6, 7] nat_short_b1 (List.length r5.2) [t0, t1, r3.1, (.int .u64 0), r5.1] r5.2) fun r6 =>
 exM (blkX 0 r6.1)
 (bd (gc (List.length m) [(hd r6.2.1), (hd (tl r6.2.1))] r6.2.2) fun r8 => some (tupD r8))
 (fun i7 => none)
 (none)
theorem S_nat_short (O : Orc) (t0 t1 : D) (m : Mem) : f_nat_short.step2 O [t0, t1] m = s_nat_short O t0 t1 m := by kernel_rfl
def s_nat_long_b1 (O : Orc) (base : Nat) (t1 t6 t7 t8 t9 t10 t11 t12 : D) (m : Mem) : Option (Ex × List D × Mem) :=
 dCond t12
 (bd (rIadr 1 [t9, t10] m) fun r1 =>
 bd (rLoad1 [r1.1] r1.2) fun r2 =>
 bd (rBinI .sub [r2.1, .int .u64 1] r2.2) fun r3 =>
 bd (rIadr 1 [t9, t10] r3.2) fun r4 =>
 bd (rStore 1 [r4.1, r3.1] r4.2) fun r5 =>
 bd (O.calla nat_gives [t11, t8] r5.2) fun r6 =>
 bd (rLenL [t8] r6.2) fun r7 =>
 bd (rIadr 1 [t11, r7.1] r7.2) fun r8 =>
 bd (rLoad1 [r8.1] r8.2) fun r9 =>
 bd (rBinI .neq [r9.1, .int .u64 0] r9.2) fun r10 =>
 bd (gc base [t1, t6, t7, t8, t9, t10, t11, r10.1] r10.2) fun r11 => O.loop [1, 6, 7, 8, 9, 10, 11, 12] [1, 6, 7, 8, 9, 10] nat_long_b1 base r11.1 r11.2)
 (bd (gc base [t1, t6, t7, t8, t9, t10] m) fun r12 => some ((.exit 2), r12.1, r12.2))
theorem S_nat_long_b1 (O : Orc) (base : Nat) (t1 t6 t7 t8 t9 t10 t11 t12 : D) (m : Mem) : loopStep2 O [1, 6, 7, 8, 9, 10, 11, 12] [1, 6, 7, 8, 9, 10] nat_long_b1 base [t1, t6, t7, t8, t9, t10, t11, t12] m = s_nat_long_b1 O base t1 t6 t7 t8 t9 t10 t11 t12 m := by kernel_rfl
def s_nat_long_b2 (O : Orc) (base : Nat) (t1 t6 t7 t8 t9 t10 : D) (m : Mem) : Option (Ex × List D × Mem) :=
 bd (rBinI .geq [t10, .int .i64 0] m) fun r1 =>
 dCond r1.1
 (bd (rLenL [t8] r1.2) fun r2 =>
 bd (rBinI .add [t10, r2.1] r2.2) fun r3 =>
 bd (rBinI .add [r3.1, .int .i64 1] r3.2) fun r4 =>
 bd (rSlL 1 true true [t7, t10, r4.1] r4.2) fun r5 =>
 bd (O.calla nat_guess [r5.1, t8] r5.2) fun r6 =>
 bd (rIadr 1 [t9, t10] r6.2) fun r7 =>
 bd (rStore 1 [r7.1, r6.1] r7.2) fun r8 =>
 bd (rIadr 1 [t9, t10] r8.2) fun r9 =>
 bd (rLoad1 [r9.1] r9.2) fun r10 =>
 bd (O.calla nat_takes [r5.1, t8, r10.1] r10.2) fun r11 =>
 jn (O.loop [1, 6, 7, 8, 9, 10, 11, 12] [1, 6, 7, 8, 9, 10] nat_long_b1 (List.length r11.2) [t1, t6, t7, t8, t9, t10, r5.1, r11.1] r11.2) fun r12 =>
 exM (blkX 1 (blkX 2 r12.1))
 (bd (rBinI .sub [(hd (tl (tl (tl (tl (tl r12.2.1)))))), .int .i64 1] r12.2.2) fun r14 =>
 bd (gc base [(hd r12.2.1), (hd (tl r12.2.1)), (hd (tl (tl r12.2.1))), (hd (tl (tl (tl r12.2.1)))), (hd (tl (tl (tl (tl r12.2.1))))), r14.1] r14.2) fun r15 => O.loop [1, 6, 7, 8, 9, 10] [1, 6, 7, 9] nat_long_b2 base r15.1 r15.2)
 (fun i13 => bd (gc base [(hd r12.2.1), (hd (tl r12.2.1)), (hd (tl (tl r12.2.1))), (hd (tl (tl (tl (tl r12.2.1)))))] r12.2.2) fun r16 => some ((.exit i13), r16.1, r16.2))
 (bd (gc base [(hd r12.2.1), (hd (tl r12.2.1)), (hd (tl (tl r12.2.1))), (hd (tl (tl (tl (tl r12.2.1)))))] r12.2.2) fun r17 => some (.ret, r17.1, r17.2)))
 (bd (gc base [t1, t6, t7, t9] r1.2) fun r18 => some ((.exit 0), r18.1, r18.2))
theorem S_nat_long_b2 (O : Orc) (base : Nat) (t1 t6 t7 t8 t9 t10 : D) (m : Mem) : loopStep2 O [1, 6, 7, 8, 9, 10] [1, 6, 7, 9] nat_long_b2 base [t1, t6, t7, t8, t9, t10] m = s_nat_long_b2 O base t1 t6 t7 t8 t9 t10 m := by kernel_rfl
def s_nat_long_b3 (O : Orc) (base : Nat) (t6 t7 t9 t13 t86 t87 : D) (m : Mem) : Option (Ex × List D × Mem) :=
 bd (rBinI .lss [t87, t86] m) fun r1 =>
 dCond r1.1
 (bd (rIadr 1 [t7, t87] r1.2) fun r2 =>
 bd (rLoad1 [r2.1] r2.2) fun r3 =>
 bd (rSh false [r3.1, t6] r3.2) fun r4 =>
 bd (rBinI .add [t87, .int .i64 1] r4.2) fun r5 =>
 bd (rIadr 1 [t7, r5.1] r5.2) fun r6 =>
 bd (rLoad1 [r6.1] r6.2) fun r7 =>
 bd (rSh true [r7.1, .int .u64 1] r7.2) fun r8 =>
 bd (rBinI .sub [.int .i64 63, t6] r8.2) fun r9 =>
 bd (rSh true [r8.1, r9.1] r9.2) fun r10 =>
 bd (rBinI .or [r4.1, r10.1] r10.2) fun r11 =>
 bd (rIadr 1 [t13, t87] r11.2) fun r12 =>
 bd (rStore 1 [r12.1, r11.1] r12.2) fun r13 =>
 bd (rBinI .add [t87, .int .i64 1] r13.2) fun r14 =>
 bd (gc base [t6, t7, t9, t13, t86, r14.1] r14.2) fun r15 => O.loop [6, 7, 9, 13, 86, 87] [9, 13] nat_long_b3 base r15.1 r15.2)
 (bd (gc base [t9, t13] r1.2) fun r16 => some ((.exit 4), r16.1, r16.2))
theorem S_nat_long_b3 (O : Orc) (base : Nat) (t6 t7 t9 t13 t86 t87 : D) (m : Mem) : loopStep2 O [6, 7, 9, 13, 86, 87] [9, 13] nat_long_b3 base [t6, t7, t9, t13, t86, t87] m = s_nat_long_b3 O base t6 t7 t9 t13 t86 t87 m := by kernel_rfl
def s_nat_long (O : Orc) (t0 t1 : D) (m : Mem) : RV :=
 bd (rLenL [t1] m) fun r1 =>
 bd (rBinI .sub [r1.1, .int .i64 1] r1.2) fun r2 =>
 bd (rIadr 1 [t1, r2.1] r2.2) fun r3 =>
 bd (rLoad1 [r3.1] r3.2) fun r4 =>
 bd (rCallc O bits_LeadingZeros64 [r4.1] r4.2) fun r5 =>
 bd (O.calla nat_left [t0, r5.1] r5.2) fun r6 =>
 bd (O.calla nat_left [t1, r5.1] r6.2) fun r7 =>
 bd (rLenL [t1] r7.2) fun r8 =>
 bd (rSlL 1 false true [r7.1, r8.1] r8.2) fun r9 =>
 bd (rLenL [t0] (r9.2 ++ [.free])) fun r11 =>
 bd (rLenL [t1] r11.2) fun r12 =>
 bd (rBinI .sub [r11.1, r12.1] r12.2) fun r13 =>
 bd (rBinI .add [r13.1, .int .i64 1] r13.2) fun r14 =>
 bd (rMksl (List.length r9.2) 0 1 [.int .u64 0] [r14.1, r14.1] r14.2) fun r15 =>
 bd (rLenL [r15.1] r15.2) fun r16 =>
 bd (rBinI .sub [r16.1, .int .i64 1] r16.2) fun r17 =>
 jn (O.loop [1, 6, 7, 8, 9, 10] [1, 6, 7, 9] nat_long_b2 (List.length r17.2) [t1, r5.1, r6.1, r9.1, r15.1, r17.1] r17.2) fun r18 =>
 exM (blkX 0 r18.1)
 (bd (rLenL [(hd r18.2.1)] (r18.2.2 ++ [.free])) fun r21 =>
 bd (rMksl (List.length r18.2.2) 0 1 [.int .u64 0] [r21.1, r21.1] r21.2) fun r22 =>
 bd (rLenL [r22.1] r22.2) fun r23 =>
 jn (O.loop [6, 7, 9, 13, 86, 87] [9, 13] nat_long_b3 (List.length r23.2) [(hd (tl r18.2.1)), (hd (tl (tl r18.2.1))), (hd (tl (tl (tl r18.2.1)))), r22.1, r23.1, (.int .i64 0)] r23.2) fun r24 =>
 exM (blkX 4 r24.1)
 (bd (gc (List.length m) [(hd r24.2.1), (hd (tl r24.2.1))] r24.2.2) fun r26 => some (tupD r26))
 (fun i25 => none)
 (none))
 (fun i19 => none)
 (none)
theorem S_nat_long (O : Orc) (t0 t1 : D) (m : Mem) : f_nat_long.step2 O [t0, t1] m = s_nat_long O t0 t1 m := by kernel_rfl
def s_nat_Nat_Pow_b1 (O : Orc) (base : Nat) (t1 t5 t6 : D) (m : Mem) : Option (Ex × List D × Mem) :=
 bd (rBinI .gtr [t1, .int .i64 0] m) fun r1 =>
 dCond r1.1
 (jn (bd (rBinI .and [t1, .int .i64 1] r1.2) fun r2 =>
 bd (rBinI .eql [r2.1, .int .i64 1] r2.2) fun r3 =>
 jn (dCond r3.1
 (bd (rCallc O nat_Nat_Mul [t5, t6] r3.2) fun r4 =>
 some (.normal, [t1, r4.1, t6], r4.2))
 (some (.normal, [t1, t5, t6], r3.2))) fun r5 =>
 exM r5.1
 (bd (rBinI .gtr [(hd r5.2.1), .int .i64 1] r5.2.2) fun r7 =>
 jn (dCond r7.1
 (bd (rCallc O nat_Nat_Mul [(hd (tl (tl r5.2.1))), (hd (tl (tl r5.2.1)))] r7.2) fun r8 =>
 some (.normal, [(hd r5.2.1), (hd (tl r5.2.1)), r8.1], r8.2))
 (some (.normal, [(hd r5.2.1), (hd (tl r5.2.1)), (hd (tl (tl r5.2.1)))], r7.2))) fun r9 =>
 some ((blkX 1 r9.1), [(hd r9.2.1), (hd (tl r9.2.1)), (hd (tl (tl r9.2.1)))], r9.2.2))
 (fun i6 => some ((blkX 1 (.exit i6)), [(hd r5.2.1), (hd (tl r5.2.1)), (hd (tl (tl r5.2.1)))], r5.2.2))
 (some (.ret, [(hd r5.2.1), (hd (tl r5.2.1)), (hd (tl (tl r5.2.1)))], r5.2.2))) fun r10 =>
 exM r10.1
 (bd (rSh false [(hd r10.2.1), .int .u64 1] r10.2.2) fun r12 =>
 bd (gc base [r12.1, (hd (tl r10.2.1)), (hd (tl (tl r10.2.1)))] r12.2) fun r13 => O.loop [1, 5, 6] [5] nat_Nat_Pow_b1 base r13.1 r13.2)
 (fun i11 => bd (gc base [(hd (tl r10.2.1))] r10.2.2) fun r14 => some ((.exit i11), r14.1, r14.2))
 (bd (gc base [(hd (tl r10.2.1))] r10.2.2) fun r15 => some (.ret, r15.1, r15.2)))
 (bd (gc base [t5] r1.2) fun r16 => some ((.exit 0), r16.1, r16.2))
theorem S_nat_Nat_Pow_b1 (O : Orc) (base : Nat) (t1 t5 t6 : D) (m : Mem) : loopStep2 O [1, 5, 6] [5] nat_Nat_Pow_b1 base [t1, t5, t6] m = s_nat_Nat_Pow_b1 O base t1 t5 t6 m := by kernel_rfl
def s_nat_Nat_Pow (O : Orc) (t0 t1 : D) (m : Mem) : RV :=
 bd (rCallc O nat_Of [.int .u64 1] m) fun r1 =>
 jn (O.loop [1, 5, 6] [5] nat_Nat_Pow_b1 (List.length r1.2) [t1, r1.1, t0] r1.2) fun r2 =>
 exM (blkX 0 r2.1)
 (bd (gc (List.length m) [(hd r2.2.1)] r2.2.2) fun r4 => some (tupD r4))
 (fun i3 => none)
 (none)
theorem S_nat_Nat_Pow (O : Orc) (t0 t1 : D) (m : Mem) : f_nat_Nat_Pow.step2 O [t0, t1] m = s_nat_Nat_Pow O t0 t1 m := by kernel_rfl
def s_cal_New_b1 (O : Orc) (base : Nat) (t0 t6 t35 t36 t37 : D) (m : Mem) : Option (Ex × List D × Mem) :=
 bd (rBinI .lss [t37, t36] m) fun r1 =>
 dCond r1.1
 (bd (rIadr 1 [t35, t37] r1.2) fun r2 =>
 bd (rLoad1 [r2.1] r2.2) fun r3 =>
 bd (rNilck [t6] r3.2) fun r4 =>
 bd (rFadr 0 [r4.1] r4.2) fun r5 =>
 bd (rLoad1 [r5.1] r5.2) fun r6 =>
 bd (rMput [r6.1, r3.1, .bool true] r6.2) fun r7 =>
 bd (rBinI .add [t37, .int .i64 1] r7.2) fun r8 =>
 bd (gc base [t0, t6, t35, t36, r8.1] r8.2) fun r9 => O.loop [0, 6, 35, 36, 37] [0, 6] cal_New_b1 base r9.1 r9.2)
 (bd (gc base [t0, t6] r1.2) fun r10 => some ((.exit 1), r10.1, r10.2))
theorem S_cal_New_b1 (O : Orc) (base : Nat) (t0 t6 t35 t36 t37 : D) (m : Mem) : loopStep2 O [0, 6, 35, 36, 37] [0, 6] cal_New_b1 base [t0, t6, t35, t36, t37] m = s_cal_New_b1 O base t0 t6 t35 t36 t37 m := by kernel_rfl
def s_cal_New_b2 (O : Orc) (base : Nat) (t6 t10 t11 t47 t48 t49 : D) (m : Mem) : Option (Ex × List D × Mem) :=
 bd (rBinI .leq [t11, .int .i64 2199] m) fun r1 =>
 dCond r1.1
 (jn (bd (rLoadA 6 [t10] r1.2) fun r2 =>
 bd (rCallc O holi_Day [r2.1, t11] r2.2) fun r3 =>
 bd (rExt 0 [r3.1] r3.2) fun r4 =>
 bd (rExt 1 [r3.1] r4.2) fun r5 =>
 jn (dCond r5.1
 (bd (rNilck [t6] r5.2) fun r6 =>
 bd (rFadr 0 [r6.1] r6.2) fun r7 =>
 bd (rLoad1 [r7.1] r7.2) fun r8 =>
 bd (rMput [r8.1, r4.1, .bool true] r8.2) fun r9 =>
 some (.normal, [t6, t10, t11, t47, t48, t49], r9.2))
 (some (.normal, [t6, t10, t11, t47, t48, t49], r5.2))) fun r10 =>
 some ((blkX 6 r10.1), [(hd r10.2.1), (hd (tl r10.2.1)), (hd (tl (tl r10.2.1))), (hd (tl (tl (tl r10.2.1)))), (hd (tl (tl (tl (tl r10.2.1))))), (hd (tl (tl (tl (tl (tl r10.2.1))))))], r10.2.2)) fun r11 =>
 exM r11.1
 (bd (rBinI .add [(hd (tl (tl r11.2.1))), .int .i64 1] r11.2.2) fun r13 =>
 bd (gc base [(hd r11.2.1), (hd (tl r11.2.1)), r13.1, (hd (tl (tl (tl r11.2.1)))), (hd (tl (tl (tl (tl r11.2.1))))), (hd (tl (tl (tl (tl (tl r11.2.1))))))] r13.2) fun r14 => O.loop [6, 10, 11, 47, 48, 49] [6, 47, 48, 49] cal_New_b2 base r14.1 r14.2)
 (fun i12 => bd (gc base [(hd r11.2.1), (hd (tl (tl (tl r11.2.1)))), (hd (tl (tl (tl (tl r11.2.1))))), (hd (tl (tl (tl (tl (tl r11.2.1))))))] r11.2.2) fun r15 => some ((.exit i12), r15.1, r15.2))
 (bd (gc base [(hd r11.2.1), (hd (tl (tl (tl r11.2.1)))), (hd (tl (tl (tl (tl r11.2.1))))), (hd (tl (tl (tl (tl (tl r11.2.1))))))] r11.2.2) fun r16 => some (.ret, r16.1, r16.2)))
 (bd (gc base [t6, t47, t48, t49] r1.2) fun r17 => some ((.exit 5), r17.1, r17.2))
theorem S_cal_New_b2 (O : Orc) (base : Nat) (t6 t10 t11 t47 t48 t49 : D) (m : Mem) : loopStep2 O [6, 10, 11, 47, 48, 49] [6, 47, 48, 49] cal_New_b2 base [t6, t10, t11, t47, t48, t49] m = s_cal_New_b2 O base t6 t10 t11 t47 t48 t49 m := by kernel_rfl
def s_cal_New_b3 (O : Orc) (base : Nat) (t6 t47 t48 t49 : D) (m : Mem) : Option (Ex × List D × Mem) :=
 bd (rBinI .lss [t49, t48] m) fun r1 =>
 dCond r1.1
 (bd (rIadr 6 [t47, t49] (r1.2 ++ [.free])) fun r3 =>
 bd (rLoadA 6 [r3.1] r3.2) fun r4 =>
 bd (rAlloc (List.length r1.2) 0 [.int .i64 0, .int .i64 0, .int .i64 0, .int .i64 0, .int .i64 0, .bool false] [] r4.2) fun r5 =>
 bd (rStore 6 [r5.1, r4.1] r5.2) fun r6 =>
 jn (O.loop [6, 10, 11, 47, 48, 49] [6, 47, 48, 49] cal_New_b2 (List.length r6.2) [t6, r5.1, (.int .i64 1900), t47, t48, t49] r6.2) fun r7 =>
 exM (blkX 4 (blkX 5 r7.1))
 (bd (rBinI .add [(hd (tl (tl (tl r7.2.1)))), .int .i64 1] r7.2.2) fun r9 =>
 bd (gc base [(hd r7.2.1), (hd (tl r7.2.1)), (hd (tl (tl r7.2.1))), r9.1] r9.2) fun r10 => O.loop [6, 47, 48, 49] [6] cal_New_b3 base r10.1 r10.2)
 (fun i8 => bd (gc base [(hd r7.2.1)] r7.2.2) fun r11 => some ((.exit i8), r11.1, r11.2))
 (bd (gc base [(hd r7.2.1)] r7.2.2) fun r12 => some (.ret, r12.1, r12.2)))
 (bd (gc base [t6] r1.2) fun r13 => some ((.exit 3), r13.1, r13.2))
theorem S_cal_New_b3 (O : Orc) (base : Nat) (t6 t47 t48 t49 : D) (m : Mem) : loopStep2 O [6, 47, 48, 49] [6] cal_New_b3 base [t6, t47, t48, t49] m = s_cal_New_b3 O base t6 t47 t48 t49 m := by kernel_rfl
def s_cal_New (O : Orc) (t0 t1 : D) (m : Mem) : RV :=
 bd (rLenL [t0] m) fun r1 =>
 bd (rBinI .gtr [r1.1, .int .i64 20] r1.2) fun r2 =>
 bd (gop (wantsD r2.1 false) (rMov [t1] r2.2) r2.2) fun r3 =>
 bd (gop (wantsD r2.1 false) (rLenL [r3.1] r3.2) r3.2) fun r4 =>
 bd (gop (wantsD r2.1 false) (rBinI .gtr [r4.1, .int .i64 100] r4.2) r4.2) fun r5 =>
 bd (rPick [r2.1, .bool true, r5.1] r5.2) fun r6 =>
 dCond r6.1
 (bd (rCallc O fault_Of [.int .i64 2] r6.2) fun r7 =>
 bd (fzL (fz FZ) [(.nilp), r7.1] r7.2) fun r8 =>
 bd (gc (List.length m) [(hd r8.1), (hd (tl r8.1))] r8.2) fun r9 => some (tupD r9))
 (bd (rCallc O slices_ContainsFunc_api_Rule [t0, .func cal_New_1 []] r6.2) fun r10 =>
 dCond r10.1
 (bd (rCallc O fault_Of [.int .i64 1] r10.2) fun r11 =>
 bd (fzL (fz FZ) [(.nilp), r11.1] r11.2) fun r12 =>
 bd (gc (List.length m) [(hd r12.1), (hd (tl r12.1))] r12.2) fun r13 => some (tupD r13))
 (bd (rCallc O slices_ContainsFunc_int [t1, .func cal_New_2 []] r10.2) fun r14 =>
 dCond r14.1
 (bd (rCallc O fault_Of [.int .i64 4] r14.2) fun r15 =>
 bd (fzL (fz FZ) [(.nilp), r15.1] r15.2) fun r16 =>
 bd (gc (List.length m) [(hd r16.1), (hd (tl r16.1))] r16.2) fun r17 => some (tupD r17))
 (bd (rMkm (List.length r14.2) 0 [] (r14.2 ++ [.free, .free])) fun r19 =>
 bd (rBuild [.nilm] [(0, 1)] [r19.1] r19.2) fun r20 =>
 bd (rBox (List.length r14.2) 1 [r20.1] r20.2) fun r21 =>
 bd (rLenL [t1] r21.2) fun r22 =>
 jn (O.loop [0, 6, 35, 36, 37] [0, 6] cal_New_b1 (List.length r22.2) [t0, r21.1, t1, r22.1, (.int .i64 0)] r22.2) fun r23 =>
 exM (blkX 1 r23.1)
 (bd (rLenL [(hd r23.2.1)] r23.2.2) fun r25 =>
 jn (O.loop [6, 47, 48, 49] [6] cal_New_b3 (List.length r25.2) [(hd (tl r23.2.1)), (hd r23.2.1), r25.1, (.int .i64 0)] r25.2) fun r26 =>
 exM (blkX 3 r26.1)
 (bd (fzL (fz FZ) [(hd r26.2.1), (.nili)] r26.2.2) fun r28 =>
 bd (gc (List.length m) [(hd r28.1), (hd (tl r28.1))] r28.2) fun r29 => some (tupD r29))
 (fun i27 => none)
 (none))
 (fun i24 => none)
 (none))))
theorem S_cal_New (O : Orc) (t0 t1 : D) (m : Mem) : f_cal_New.step2 O [t0, t1] m = s_cal_New O t0 t1 m := by kernel_rfl
def s_slices_Reverse_string_b1 (O : Orc) (base : Nat) (t0 t2 t3 : D) (m : Mem) : Option (Ex × List D × Mem) :=
 bd (rBinI .lss [t2, t3] m) fun r1 =>
 dCond r1.1
 (bd (rIadr 1 [t0, t3] r1.2) fun r2 =>
 bd (rLoad1 [r2.1] r2.2) fun r3 =>
 bd (rIadr 1 [t0, t2] r3.2) fun r4 =>
 bd (rLoad1 [r4.1] r4.2) fun r5 =>
 bd (rIadr 1 [t0, t2] r5.2) fun r6 =>
 bd (rStore 1 [r6.1, r3.1] r6.2) fun r7 =>
 bd (rIadr 1 [t0, t3] r7.2) fun r8 =>
 bd (rStore 1 [r8.1, r5.1] r8.2) fun r9 =>
 bd (rBinI .add [t2, .int .i64 1] r9.2) fun r10 =>
 bd (rBinI .sub [t3, .int .i64 1] r10.2) fun r11 =>
 bd (gc base [t0, r10.1, r11.1] r11.2) fun r12 => O.loop [0, 2, 3] [] slices_Reverse_string_b1 base r12.1 r12.2)
 (bd (gc base [] r1.2) fun r13 => some ((.exit 0), r13.1, r13.2))
theorem S_slices_Reverse_string_b1 (O : Orc) (base : Nat) (t0 t2 t3 : D) (m : Mem) : loopStep2 O [0, 2, 3] [] slices_Reverse_string_b1 base [t0, t2, t3] m = s_slices_Reverse_string_b1 O base t0 t2 t3 m := by kernel_rfl
def s_slices_Reverse_string (O : Orc) (t0 : D) (m : Mem) : RV :=
 bd (rLenL [t0] m) fun r1 =>
 bd (rBinI .sub [r1.1, .int .i64 1] r1.2) fun r2 =>
 jn (O.loop [0, 2, 3] [] slices_Reverse_string_b1 (List.length r2.2) [t0, (.int .i64 0), r2.1] r2.2) fun r3 =>
 exM (blkX 0 r3.1)
 (bd (gc (List.length m) [] r3.2.2) fun r5 => some (tupD r5))
 (fun i4 => none)
 (bd (gc (List.length m) [] r3.2.2) fun r6 => some (tupD r6))
theorem S_slices_Reverse_string (O : Orc) (t0 : D) (m : Mem) : f_slices_Reverse_string.step2 O [t0] m = s_slices_Reverse_string O t0 m := by kernel_rfl
def s_nat_twos_b1 (O : Orc) (base : Nat) (t0 t3 : D) (m : Mem) : Option (Ex × List D × Mem) :=
 bd (rIadr 1 [t0, t3] m) fun r1 =>
 bd (rLoad1 [r1.1] r1.2) fun r2 =>
 bd (rBinI .eql [r2.1, .int .u64 0] r2.2) fun r3 =>
 dCond r3.1
 (bd (rBinI .add [t3, .int .i64 1] r3.2) fun r4 =>
 bd (gc base [t0, r4.1] r4.2) fun r5 => O.loop [0, 3] [0, 3] nat_twos_b1 base r5.1 r5.2)
 (bd (gc base [t0, t3] r3.2) fun r6 => some ((.exit 0), r6.1, r6.2))
theorem S_nat_twos_b1 (O : Orc) (base : Nat) (t0 t3 : D) (m : Mem) : loopStep2 O [0, 3] [0, 3] nat_twos_b1 base [t0, t3] m = s_nat_twos_b1 O base t0 t3 m := by kernel_rfl
def s_nat_twos (O : Orc) (t0 : D) (m : Mem) : RV :=
 jn (O.loop [0, 3] [0, 3] nat_twos_b1 (List.length m) [t0, (.int .i64 0)] m) fun r1 =>
 exM (blkX 0 r1.1)
 (bd (rBinI .mul [.int .i64 64, (hd (tl r1.2.1))] r1.2.2) fun r3 =>
 bd (rIadr 1 [(hd r1.2.1), (hd (tl r1.2.1))] r3.2) fun r4 =>
 bd (rLoad1 [r4.1] r4.2) fun r5 =>
 bd (rCallc O bits_TrailingZeros64 [r5.1] r5.2) fun r6 =>
 bd (rBinI .add [r3.1, r6.1] r6.2) fun r7 =>
 bd (gc (List.length m) [r7.1] r7.2) fun r8 => some (tupD r8))
 (fun i2 => none)
 (none)
theorem S_nat_twos (O : Orc) (t0 : D) (m : Mem) : f_nat_twos.step2 O [t0] m = s_nat_twos O t0 m := by kernel_rfl
def s_nat_odd_b1 (O : Orc) (base : Nat) (t0 t3 t14 t15 : D) (m : Mem) : Option (Ex × List D × Mem) :=
 bd (rBinI .lss [t15, t14] m) fun r1 =>
 dCond r1.1
 (jn (bd (rIadr 1 [t0, t15] r1.2) fun r2 =>
 bd (rLoad1 [r2.1] r2.2) fun r3 =>
 bd (rSh false [r3.1, t3] r3.2) fun r4 =>
 bd (rIadr 1 [t0, t15] r4.2) fun r5 =>
 bd (rStore 1 [r5.1, r4.1] r5.2) fun r6 =>
 bd (rBinI .add [t15, .int .i64 1] r6.2) fun r7 =>
 bd (rLenL [t0] r7.2) fun r8 =>
 bd (rBinI .lss [r7.1, r8.1] r8.2) fun r9 =>
 jn (dCond r9.1
 (bd (rIadr 1 [t0, t15] r9.2) fun r10 =>
 bd (rLoad1 [r10.1] r10.2) fun r11 =>
 bd (rBinI .add [t15, .int .i64 1] r11.2) fun r12 =>
 bd (rIadr 1 [t0, r12.1] r12.2) fun r13 =>
 bd (rLoad1 [r13.1] r13.2) fun r14 =>
 bd (rSh true [r14.1, .int .u64 1] r14.2) fun r15 =>
 bd (rBinI .sub [.int .i64 63, t3] r15.2) fun r16 =>
 bd (rSh true [r15.1, r16.1] r16.2) fun r17 =>
 bd (rBinI .or [r11.1, r17.1] r17.2) fun r18 =>
 bd (rIadr 1 [t0, t15] r18.2) fun r19 =>
 bd (rStore 1 [r19.1, r18.1] r19.2) fun r20 =>
 some (.normal, [t0, t3, t14, t15], r20.2))
 (some (.normal, [t0, t3, t14, t15], r9.2))) fun r21 =>
 some ((blkX 1 r21.1), [(hd r21.2.1), (hd (tl r21.2.1)), (hd (tl (tl r21.2.1))), (hd (tl (tl (tl r21.2.1))))], r21.2.2)) fun r22 =>
 exM r22.1
 (bd (rBinI .add [(hd (tl (tl (tl r22.2.1)))), .int .i64 1] r22.2.2) fun r24 =>
 bd (gc base [(hd r22.2.1), (hd (tl r22.2.1)), (hd (tl (tl r22.2.1))), r24.1] r24.2) fun r25 => O.loop [0, 3, 14, 15] [0] nat_odd_b1 base r25.1 r25.2)
 (fun i23 => bd (gc base [(hd r22.2.1)] r22.2.2) fun r26 => some ((.exit i23), r26.1, r26.2))
 (bd (gc base [(hd r22.2.1)] r22.2.2) fun r27 => some (.ret, r27.1, r27.2)))
 (bd (gc base [t0] r1.2) fun r28 => some ((.exit 0), r28.1, r28.2))
theorem S_nat_odd_b1 (O : Orc) (base : Nat) (t0 t3 t14 t15 : D) (m : Mem) : loopStep2 O [0, 3, 14, 15] [0] nat_odd_b1 base [t0, t3, t14, t15] m = s_nat_odd_b1 O base t0 t3 t14 t15 m := by kernel_rfl
def s_nat_odd (O : Orc) (t0 : D) (m : Mem) : RV :=
 bd (O.calla nat_twos [t0] m) fun r1 =>
 bd (rBinI .quo [r1.1, .int .i64 64] r1.2) fun r2 =>
 bd (rSlL 1 true false [t0, r2.1] r2.2) fun r3 =>
 bd (rBinI .rem [r1.1, .int .i64 64] r3.2) fun r4 =>
 bd (rLenL [r3.1] r4.2) fun r5 =>
 jn (O.loop [0, 3, 14, 15] [0] nat_odd_b1 (List.length r5.2) [r3.1, r4.1, r5.1, (.int .i64 0)] r5.2) fun r6 =>
 exM (blkX 0 r6.1)
 (bd (O.calla nat_made [(hd r6.2.1)] r6.2.2) fun r8 =>
 bd (rNilck [r8.1] r8.2) fun r9 =>
 bd (rFadr 0 [r9.1] r9.2) fun r10 =>
 bd (rLoad1 [r10.1] r10.2) fun r11 =>
 bd (gc (List.length m) [r11.1] r11.2) fun r12 => some (tupD r12))
 (fun i7 => none)
 (none)
theorem S_nat_odd (O : Orc) (t0 : D) (m : Mem) : f_nat_odd.step2 O [t0] m = s_nat_odd O t0 m := by kernel_rfl
def s_nat_bit (O : Orc) (t0 : D) (m : Mem) : RV :=
 bd (rBinI .quo [t0, .int .i64 64] (m ++ [.free])) fun r2 =>
 bd (rBinI .add [r2.1, .int .i64 1] r2.2) fun r3 =>
 bd (rMksl (List.length m) 0 1 [.int .u64 0] [r3.1, r3.1] r3.2) fun r4 =>
 bd (rBinI .quo [t0, .int .i64 64] r4.2) fun r5 =>
 bd (rBinI .rem [t0, .int .i64 64] r5.2) fun r6 =>
 bd (rSh true [.int .u64 1, r6.1] r6.2) fun r7 =>
 bd (rIadr 1 [r4.1, r5.1] r7.2) fun r8 =>
 bd (rStore 1 [r8.1, r7.1] r8.2) fun r9 =>
 bd (rCallp O nat_made [r4.1] r9.2) fun r10 =>
 bd (gc (List.length m) [r10.1] r10.2) fun r11 => some (tupD r11)
theorem S_nat_bit (O : Orc) (t0 : D) (m : Mem) : f_nat_bit.step2 O [t0] m = s_nat_bit O t0 m := by kernel_rfl
def s_nat_less_b1 (O : Orc) (base : Nat) (t0 t1 t5 t9 t10 : D) (m : Mem) : Option (Ex × List D × Mem) :=
 bd (rBinI .lss [t10, t9] m) fun r1 =>
 dCond r1.1
 (jn (bd (rLenL [t1] r1.2) fun r2 =>
 bd (rBinI .lss [t10, r2.1] r2.2) fun r3 =>
 jn (dCond r3.1
 (bd (rIadr 1 [t1, t10] r3.2) fun r4 =>
 bd (rLoad1 [r4.1] r4.2) fun r5 =>
 some (.normal, [t0, t1, t5, t10, r5.1, t9, t10], r5.2))
 (some (.normal, [t0, t1, t5, t10, (.int .u64 0), t9, t10], r3.2))) fun r6 =>
 exM r6.1
 (bd (rIadr 1 [(hd r6.2.1), (hd (tl (tl (tl r6.2.1))))] r6.2.2) fun r8 =>
 bd (rLoad1 [r8.1] r8.2) fun r9 =>
 bd (rCallc O bits_Sub64 [r9.1, (hd (tl (tl (tl (tl r6.2.1))))), (hd (tl (tl r6.2.1)))] r9.2) fun r10 =>
 bd (rExt 0 [r10.1] r10.2) fun r11 =>
 bd (rExt 1 [r10.1] r11.2) fun r12 =>
 bd (rIadr 1 [(hd r6.2.1), (hd (tl (tl (tl r6.2.1))))] r12.2) fun r13 =>
 bd (rStore 1 [r13.1, r11.1] r13.2) fun r14 =>
 some (.normal, [(hd r6.2.1), (hd (tl r6.2.1)), r12.1, (hd (tl (tl (tl (tl (tl r6.2.1)))))), (hd (tl (tl (tl (tl (tl (tl r6.2.1)))))))], r14.2))
 (fun i7 => some ((blkX 1 (.exit i7)), [(hd r6.2.1), (hd (tl r6.2.1)), (hd (tl (tl r6.2.1))), (hd (tl (tl (tl (tl (tl r6.2.1)))))), (hd (tl (tl (tl (tl (tl (tl r6.2.1)))))))], r6.2.2))
 (some (.ret, [(hd r6.2.1), (hd (tl r6.2.1)), (hd (tl (tl r6.2.1))), (hd (tl (tl (tl (tl (tl r6.2.1)))))), (hd (tl (tl (tl (tl (tl (tl r6.2.1)))))))], r6.2.2))) fun r15 =>
 exM r15.1
 (bd (rBinI .add [(hd (tl (tl (tl (tl r15.2.1))))), .int .i64 1] r15.2.2) fun r17 =>
 bd (gc base [(hd r15.2.1), (hd (tl r15.2.1)), (hd (tl (tl r15.2.1))), (hd (tl (tl (tl r15.2.1)))), r17.1] r17.2) fun r18 => O.loop [0, 1, 5, 9, 10] [0] nat_less_b1 base r18.1 r18.2)
 (fun i16 => bd (gc base [(hd r15.2.1)] r15.2.2) fun r19 => some ((.exit i16), r19.1, r19.2))
 (bd (gc base [(hd r15.2.1)] r15.2.2) fun r20 => some (.ret, r20.1, r20.2)))
 (bd (gc base [t0] r1.2) fun r21 => some ((.exit 0), r21.1, r21.2))
theorem S_nat_less_b1 (O : Orc) (base : Nat) (t0 t1 t5 t9 t10 : D) (m : Mem) : loopStep2 O [0, 1, 5, 9, 10] [0] nat_less_b1 base [t0, t1, t5, t9, t10] m = s_nat_less_b1 O base t0 t1 t5 t9 t10 m := by kernel_rfl
def s_nat_less (O : Orc) (t0 t1 : D) (m : Mem) : RV :=
 bd (rLenL [t0] m) fun r1 =>
 jn (O.loop [0, 1, 5, 9, 10] [0] nat_less_b1 (List.length r1.2) [t0, t1, (.int .u64 0), r1.1, (.int .i64 0)] r1.2) fun r2 =>
 exM (blkX 0 r2.1)
 (bd (O.calla nat_made [(hd r2.2.1)] r2.2.2) fun r4 =>
 bd (rNilck [r4.1] r4.2) fun r5 =>
 bd (rFadr 0 [r5.1] r5.2) fun r6 =>
 bd (rLoad1 [r6.1] r6.2) fun r7 =>
 bd (gc (List.length m) [r7.1] r7.2) fun r8 => some (tupD r8))
 (fun i3 => none)
 (none)
theorem S_nat_less (O : Orc) (t0 t1 : D) (m : Mem) : f_nat_less.step2 O [t0, t1] m = s_nat_less O t0 t1 m := by kernel_rfl
def s_bits_Div64_b1 (O : Orc) (base : Nat) (t2 t8 t9 t10 t11 t13 t14 t15 t16 : D) (m : Mem) : Option (Ex × List D × Mem) :=
 bd (rBinI .geq [t15, .int .u64 4294967296] m) fun r1 =>
 bd (gop (wantsD r1.1 false) (rMov [t15] r1.2) r1.2) fun r2 =>
 bd (gop (wantsD r1.1 false) (rMov [t10] r2.2) r2.2) fun r3 =>
 bd (gop (wantsD r1.1 false) (rBinI .mul [r2.1, r3.1] r3.2) r3.2) fun r4 =>
 bd (gop (wantsD r1.1 false) (rMov [t16] r4.2) r4.2) fun r5 =>
 bd (gop (wantsD r1.1 false) (rBinI .mul [.int .u64 4294967296, r5.1] r5.2) r5.2) fun r6 =>
 bd (gop (wantsD r1.1 false) (rMov [t13] r6.2) r6.2) fun r7 =>
 bd (gop (wantsD r1.1 false) (rBinI .add [r6.1, r7.1] r7.2) r7.2) fun r8 =>
 bd (gop (wantsD r1.1 false) (rBinI .gtr [r4.1, r8.1] r8.2) r8.2) fun r9 =>
 bd (rPick [r1.1, .bool true, r9.1] r9.2) fun r10 =>
 dCond r10.1
 (bd (rBinI .sub [t15, .int .u64 1] r10.2) fun r11 =>
 bd (rBinI .add [t16, t9] r11.2) fun r12 =>
 bd (rBinI .geq [r12.1, .int .u64 4294967296] r12.2) fun r13 =>
 dCond r13.1
 (bd (gc base [t2, t8, t9, t10, t11, t13, t14, r11.1] r13.2) fun r14 => some ((.exit 0), r14.1, r14.2))
 (bd (gc base [t2, t8, t9, t10, t11, t13, t14, r11.1, r12.1] r13.2) fun r15 => O.loop [2, 8, 9, 10, 11, 13, 14, 15, 16] [2, 8, 9, 10, 11, 13, 14, 15] bits_Div64_b1 base r15.1 r15.2))
 (bd (gc base [t2, t8, t9, t10, t11, t13, t14, t15] r10.2) fun r16 => some ((.exit 0), r16.1, r16.2))
theorem S_bits_Div64_b1 (O : Orc) (base : Nat) (t2 t8 t9 t10 t11 t13 t14 t15 t16 : D) (m : Mem) : loopStep2 O [2, 8, 9, 10, 11, 13, 14, 15, 16] [2, 8, 9, 10, 11, 13, 14, 15] bits_Div64_b1 base [t2, t8, t9, t10, t11, t13, t14, t15, t16] m = s_bits_Div64_b1 O base t2 t8 t9 t10 t11 t13 t14 t15 t16 m := by kernel_rfl
def s_bits_Div64_b2 (O : Orc) (base : Nat) (t2 t8 t9 t10 t14 t15 t16 t17 t18 : D) (m : Mem) : Option (Ex × List D × Mem) :=
 bd (rBinI .geq [t18, .int .u64 4294967296] m) fun r1 =>
 bd (gop (wantsD r1.1 false) (rMov [t18] r1.2) r1.2) fun r2 =>
 bd (gop (wantsD r1.1 false) (rMov [t10] r2.2) r2.2) fun r3 =>
 bd (gop (wantsD r1.1 false) (rBinI .mul [r2.1, r3.1] r3.2) r3.2) fun r4 =>
 bd (gop (wantsD r1.1 false) (rMov [t16] r4.2) r4.2) fun r5 =>
 bd (gop (wantsD r1.1 false) (rBinI .mul [.int .u64 4294967296, r5.1] r5.2) r5.2) fun r6 =>
 bd (gop (wantsD r1.1 false) (rMov [t14] r6.2) r6.2) fun r7 =>
 bd (gop (wantsD r1.1 false) (rBinI .add [r6.1, r7.1] r7.2) r7.2) fun r8 =>
 bd (gop (wantsD r1.1 false) (rBinI .gtr [r4.1, r8.1] r8.2) r8.2) fun r9 =>
 bd (rPick [r1.1, .bool true, r9.1] r9.2) fun r10 =>
 dCond r10.1
 (bd (rBinI .sub [t18, .int .u64 1] r10.2) fun r11 =>
 bd (rBinI .add [t16, t9] r11.2) fun r12 =>
 bd (rBinI .geq [r12.1, .int .u64 4294967296] r12.2) fun r13 =>
 dCond r13.1
 (bd (gc base [t2, t8, t14, t15, t17, r11.1] r13.2) fun r14 => some ((.exit 2), r14.1, r14.2))
 (bd (gc base [t2, t8, t9, t10, t14, t15, r12.1, t17, r11.1] r13.2) fun r15 => O.loop [2, 8, 9, 10, 14, 15, 16, 17, 18] [2, 8, 14, 15, 17, 18] bits_Div64_b2 base r15.1 r15.2))
 (bd (gc base [t2, t8, t14, t15, t17, t18] r10.2) fun r16 => some ((.exit 2), r16.1, r16.2))
theorem S_bits_Div64_b2 (O : Orc) (base : Nat) (t2 t8 t9 t10 t14 t15 t16 t17 t18 : D) (m : Mem) : loopStep2 O [2, 8, 9, 10, 14, 15, 16, 17, 18] [2, 8, 14, 15, 17, 18] bits_Div64_b2 base [t2, t8, t9, t10, t14, t15, t16, t17, t18] m = s_bits_Div64_b2 O base t2 t8 t9 t10 t14 t15 t16 t17 t18 m := by kernel_rfl
def s_bits_Div64 (O : Orc) (t0 t1 t2 : D) (m : Mem) : RV :=
 bd (rBinI .eql [t2, .int .u64 0] m) fun r1 =>
 jn (dCond r1.1
 (none)
 (some (.normal, [t0, t1, t2], r1.2))) fun r2 =>
 exM r2.1
 (bd (rBinI .leq [(hd (tl (tl r2.2.1))), (hd r2.2.1)] r2.2.2) fun r4 =>
 jn (dCond r4.1
 (none)
 (some (.normal, [(hd r2.2.1), (hd (tl r2.2.1)), (hd (tl (tl r2.2.1)))], r4.2))) fun r5 =>
 exM r5.1
 (bd (rBinI .eql [(hd r5.2.1), .int .u64 0] r5.2.2) fun r7 =>
 dCond r7.1
 (bd (rBinI .quo [(hd (tl r5.2.1)), (hd (tl (tl r5.2.1)))] r7.2) fun r8 =>
 bd (rBinI .rem [(hd (tl r5.2.1)), (hd (tl (tl r5.2.1)))] r8.2) fun r9 =>
 bd (gc (List.length m) [r8.1, r9.1] r9.2) fun r10 => some (tupD r10))
 (bd (rCallc O bits_LeadingZeros64 [(hd (tl (tl r5.2.1)))] r7.2) fun r11 =>
 bd (rConv .u64 [r11.1] r11.2) fun r12 =>
 bd (rSh true [(hd (tl (tl r5.2.1))), r12.1] r12.2) fun r13 =>
 bd (rSh false [r13.1, .int .u64 32] r13.2) fun r14 =>
 bd (rBinI .and [r13.1, .int .u64 4294967295] r14.2) fun r15 =>
 bd (rSh true [(hd r5.2.1), r12.1] r15.2) fun r16 =>
 bd (rBinI .sub [.int .u64 64, r12.1] r16.2) fun r17 =>
 bd (rSh false [(hd (tl r5.2.1)), r17.1] r17.2) fun r18 =>
 bd (rBinI .or [r16.1, r18.1] r18.2) fun r19 =>
 bd (rSh true [(hd (tl r5.2.1)), r12.1] r19.2) fun r20 =>
 bd (rSh false [r20.1, .int .u64 32] r20.2) fun r21 =>
 bd (rBinI .and [r20.1, .int .u64 4294967295] r21.2) fun r22 =>
 bd (rBinI .quo [r19.1, r14.1] r22.2) fun r23 =>
 bd (rBinI .mul [r23.1, r14.1] r23.2) fun r24 =>
 bd (rBinI .sub [r19.1, r24.1] r24.2) fun r25 =>
 jn (O.loop [2, 8, 9, 10, 11, 13, 14, 15, 16] [2, 8, 9, 10, 11, 13, 14, 15] bits_Div64_b1 (List.length r25.2) [r13.1, r12.1, r14.1, r15.1, r19.1, r21.1, r22.1, r23.1, r25.1] r25.2) fun r26 =>
 exM (blkX 0 r26.1)
 (bd (rBinI .mul [(hd (tl (tl (tl (tl r26.2.1))))), .int .u64 4294967296] r26.2.2) fun r28 =>
 bd (rBinI .add [r28.1, (hd (tl (tl (tl (tl (tl r26.2.1))))))] r28.2) fun r29 =>
 bd (rBinI .mul [(hd (tl (tl (tl (tl (tl (tl (tl r26.2.1)))))))), (hd r26.2.1)] r29.2) fun r30 =>
 bd (rBinI .sub [r29.1, r30.1] r30.2) fun r31 =>
 bd (rBinI .quo [r31.1, (hd (tl (tl r26.2.1)))] r31.2) fun r32 =>
 bd (rBinI .mul [r32.1, (hd (tl (tl r26.2.1)))] r32.2) fun r33 =>
 bd (rBinI .sub [r31.1, r33.1] r33.2) fun r34 =>
 jn (O.loop [2, 8, 9, 10, 14, 15, 16, 17, 18] [2, 8, 14, 15, 17, 18] bits_Div64_b2 (List.length r34.2) [(hd r26.2.1), (hd (tl r26.2.1)), (hd (tl (tl r26.2.1))), (hd (tl (tl (tl r26.2.1)))), (hd (tl (tl (tl (tl (tl (tl r26.2.1))))))), (hd (tl (tl (tl (tl (tl (tl (tl r26.2.1)))))))), r34.1, r31.1, r32.1] r34.2) fun r35 =>
 exM (blkX 2 r35.1)
 (bd (rBinI .mul [(hd (tl (tl (tl r35.2.1)))), .int .u64 4294967296] r35.2.2) fun r37 =>
 bd (rBinI .add [r37.1, (hd (tl (tl (tl (tl (tl r35.2.1))))))] r37.2) fun r38 =>
 bd (rBinI .mul [(hd (tl (tl (tl (tl r35.2.1))))), .int .u64 4294967296] r38.2) fun r39 =>
 bd (rBinI .add [r39.1, (hd (tl (tl r35.2.1)))] r39.2) fun r40 =>
 bd (rBinI .mul [(hd (tl (tl (tl (tl (tl r35.2.1)))))), (hd r35.2.1)] r40.2) fun r41 =>
 bd (rBinI .sub [r40.1, r41.1] r41.2) fun r42 =>
 bd (rSh false [r42.1, (hd (tl r35.2.1))] r42.2) fun r43 =>
 bd (gc (List.length m) [r38.1, r43.1] r43.2) fun r44 => some (tupD r44))
 (fun i36 => none)
 (none))
 (fun i27 => none)
 (none)))
 (fun i6 => none)
 (none))
 (fun i3 => none)
 (none)
theorem S_bits_Div64 (O : Orc) (t0 t1 t2 : D) (m : Mem) : f_bits_Div64.step2 O [t0, t1, t2] m = s_bits_Div64 O t0 t1 t2 m := by kernel_rfl
def s_nat_left_b1 (O : Orc) (base : Nat) (t1 t5 t12 t13 t14 : D) (m : Mem) : Option (Ex × List D × Mem) :=
 bd (rBinI .lss [t14, t13] m) fun r1 =>
 dCond r1.1
 (bd (rIadr 1 [t12, t14] r1.2) fun r2 =>
 bd (rLoad1 [r2.1] r2.2) fun r3 =>
 bd (rIadr 1 [t5, t14] r3.2) fun r4 =>
 bd (rLoad1 [r4.1] r4.2) fun r5 =>
 bd (rSh true [r3.1, t1] r5.2) fun r6 =>
 bd (rBinI .or [r5.1, r6.1] r6.2) fun r7 =>
 bd (rIadr 1 [t5, t14] r7.2) fun r8 =>
 bd (rStore 1 [r8.1, r7.1] r8.2) fun r9 =>
 bd (rBinI .add [t14, .int .i64 1] r9.2) fun r10 =>
 bd (rSh false [r3.1, .int .u64 1] r10.2) fun r11 =>
 bd (rBinI .sub [.int .i64 63, t1] r11.2) fun r12 =>
 bd (rSh false [r11.1, r12.1] r12.2) fun r13 =>
 bd (rIadr 1 [t5, r10.1] r13.2) fun r14 =>
 bd (rStore 1 [r14.1, r13.1] r14.2) fun r15 =>
 bd (rBinI .add [t14, .int .i64 1] r15.2) fun r16 =>
 bd (gc base [t1, t5, t12, t13, r16.1] r16.2) fun r17 => O.loop [1, 5, 12, 13, 14] [5] nat_left_b1 base r17.1 r17.2)
 (bd (gc base [t5] r1.2) fun r18 => some ((.exit 0), r18.1, r18.2))
theorem S_nat_left_b1 (O : Orc) (base : Nat) (t1 t5 t12 t13 t14 : D) (m : Mem) : loopStep2 O [1, 5, 12, 13, 14] [5] nat_left_b1 base [t1, t5, t12, t13, t14] m = s_nat_left_b1 O base t1 t5 t12 t13 t14 m := by kernel_rfl
def s_nat_left (O : Orc) (t0 t1 : D) (m : Mem) : RV :=
 bd (rLenL [t0] (m ++ [.free])) fun r2 =>
 bd (rBinI .add [r2.1, .int .i64 1] r2.2) fun r3 =>
 bd (rMksl (List.length m) 0 1 [.int .u64 0] [r3.1, r3.1] r3.2) fun r4 =>
 bd (rLenL [t0] r4.2) fun r5 =>
 jn (O.loop [1, 5, 12, 13, 14] [5] nat_left_b1 (List.length r5.2) [t1, r4.1, t0, r5.1, (.int .i64 0)] r5.2) fun r6 =>
 exM (blkX 0 r6.1)
 (bd (gc (List.length m) [(hd r6.2.1)] r6.2.2) fun r8 => some (tupD r8))
 (fun i7 => none)
 (none)
theorem S_nat_left (O : Orc) (t0 t1 : D) (m : Mem) : f_nat_left.step2 O [t0, t1] m = s_nat_left O t0 t1 m := by kernel_rfl
def s_nat_guess_b1 (O : Orc) (base : Nat) (t0 t5 t6 t7 t8 t9 : D) (m : Mem) : Option (Ex × List D × Mem) :=
 bd (rCallc O bits_Mul64 [t8, t6] m) fun r1 =>
 bd (rExt 0 [r1.1] r1.2) fun r2 =>
 bd (rExt 1 [r1.1] r2.2) fun r3 =>
 bd (rBinI .lss [r2.1, t9] r3.2) fun r4 =>
 bd (gop (wantsD r4.1 false) (rMov [r2.1] r4.2) r4.2) fun r5 =>
 bd (gop (wantsD r4.1 false) (rMov [t9] r5.2) r5.2) fun r6 =>
 bd (gop (wantsD r4.1 false) (rBinI .eql [r5.1, r6.1] r6.2) r6.2) fun r7 =>
 bd (gop (wantsD r4.1 false) (rMov [r7.1] r7.2) r7.2) fun r8 =>
 bd (gop (wantsD r8.1 true) (rMov [r3.1] r8.2) r8.2) fun r9 =>
 bd (gop (wantsD r8.1 true) (rMov [t0] r9.2) r9.2) fun r10 =>
 bd (gop (wantsD r8.1 true) (rMov [t7] r10.2) r10.2) fun r11 =>
 bd (gop (wantsD r8.1 true) (rBinI .sub [r11.1, .int .i64 2] r11.2) r11.2) fun r12 =>
 bd (gop (wantsD r8.1 true) (rIadr 1 [r10.1, r12.1] r12.2) r12.2) fun r13 =>
 bd (gop (wantsD r8.1 true) (rLoad1 [r13.1] r13.2) r13.2) fun r14 =>
 bd (gop (wantsD r8.1 true) (rBinI .leq [r9.1, r14.1] r14.2) r14.2) fun r15 =>
 bd (gop (wantsD r4.1 false) (rPick [r8.1, r15.1, .bool false] r15.2) r15.2) fun r16 =>
 bd (rPick [r4.1, .bool true, r16.1] r16.2) fun r17 =>
 dCond r17.1
 (bd (gc base [t8] r17.2) fun r18 => some (.ret, r18.1, r18.2))
 (bd (rBinI .sub [t8, .int .u64 1] r17.2) fun r19 =>
 bd (rCallc O bits_Add64 [t9, t5, .int .u64 0] r19.2) fun r20 =>
 bd (rExt 0 [r20.1] r20.2) fun r21 =>
 bd (rExt 1 [r20.1] r21.2) fun r22 =>
 bd (rBinI .neq [r22.1, .int .u64 0] r22.2) fun r23 =>
 dCond r23.1
 (bd (gc base [r19.1] r23.2) fun r24 => some (.ret, r24.1, r24.2))
 (bd (gc base [t0, t5, t6, t7, r19.1, r21.1] r23.2) fun r25 => O.loop [0, 5, 6, 7, 8, 9] [4] nat_guess_b1 base r25.1 r25.2))
theorem S_nat_guess_b1 (O : Orc) (base : Nat) (t0 t5 t6 t7 t8 t9 : D) (m : Mem) : loopStep2 O [0, 5, 6, 7, 8, 9] [4] nat_guess_b1 base [t0, t5, t6, t7, t8, t9] m = s_nat_guess_b1 O base t0 t5 t6 t7 t8 t9 m := by kernel_rfl
def s_nat_guess (O : Orc) (t0 t1 : D) (m : Mem) : RV :=
 bd (rLenL [t1] m) fun r1 =>
 bd (rBinI .sub [r1.1, .int .i64 1] r1.2) fun r2 =>
 bd (rIadr 1 [t1, r2.1] r2.2) fun r3 =>
 bd (rLoad1 [r3.1] r3.2) fun r4 =>
 bd (rLenL [t1] r4.2) fun r5 =>
 bd (rBinI .sub [r5.1, .int .i64 2] r5.2) fun r6 =>
 bd (rIadr 1 [t1, r6.1] r6.2) fun r7 =>
 bd (rLoad1 [r7.1] r7.2) fun r8 =>
 bd (rLenL [t0] r8.2) fun r9 =>
 bd (rBinI .sub [r9.1, .int .i64 1] r9.2) fun r10 =>
 bd (rIadr 1 [t0, r10.1] r10.2) fun r11 =>
 bd (rLoad1 [r11.1] r11.2) fun r12 =>
 bd (rBinI .geq [r12.1, r4.1] r12.2) fun r13 =>
 dCond r13.1
 (bd (gc (List.length m) [(.int .u64 18446744073709551615)] r13.2) fun r14 => some (tupD r14))
 (bd (rIadr 1 [t0, r10.1] r13.2) fun r15 =>
 bd (rLoad1 [r15.1] r15.2) fun r16 =>
 bd (rBinI .sub [r10.1, .int .i64 1] r16.2) fun r17 =>
 bd (rIadr 1 [t0, r17.1] r17.2) fun r18 =>
 bd (rLoad1 [r18.1] r18.2) fun r19 =>
 bd (rCallc O bits_Div64 [r16.1, r19.1, r4.1] r19.2) fun r20 =>
 bd (rExt 0 [r20.1] r20.2) fun r21 =>
 bd (rExt 1 [r20.1] r21.2) fun r22 =>
 jn (O.loop [0, 5, 6, 7, 8, 9] [4] nat_guess_b1 (List.length r22.2) [t0, r4.1, r8.1, r10.1, r21.1, r22.1] r22.2) fun r23 =>
 exM (blkX 0 r23.1)
 (bd (gc (List.length m) [(hd r23.2.1)] r23.2.2) fun r25 => some (tupD r25))
 (fun i24 => none)
 (bd (gc (List.length m) [(hd r23.2.1)] r23.2.2) fun r26 => some (tupD r26)))
theorem S_nat_guess (O : Orc) (t0 t1 : D) (m : Mem) : f_nat_guess.step2 O [t0, t1] m = s_nat_guess O t0 t1 m := by kernel_rfl
def s_nat_takes_b1 (O : Orc) (base : Nat) (t0 t1 t2 t7 t8 t14 t15 t16 : D) (m : Mem) : Option (Ex × List D × Mem) :=
 bd (rBinI .lss [t16, t15] m) fun r1 =>
 dCond r1.1
 (bd (rIadr 1 [t14, t16] r1.2) fun r2 =>
 bd (rLoad1 [r2.1] r2.2) fun r3 =>
 bd (rCallc O bits_Mul64 [t2, r3.1] r3.2) fun r4 =>
 bd (rExt 0 [r4.1] r4.2) fun r5 =>
 bd (rExt 1 [r4.1] r5.2) fun r6 =>
 bd (rCallc O bits_Add64 [r6.1, t7, .int .u64 0] r6.2) fun r7 =>
 bd (rExt 0 [r7.1] r7.2) fun r8 =>
 bd (rExt 1 [r7.1] r8.2) fun r9 =>
 bd (rBinI .add [r5.1, r9.1] r9.2) fun r10 =>
 bd (rIadr 1 [t0, t16] r10.2) fun r11 =>
 bd (rLoad1 [r11.1] r11.2) fun r12 =>
 bd (rCallc O bits_Sub64 [r12.1, r8.1, t8] r12.2) fun r13 =>
 bd (rExt 0 [r13.1] r13.2) fun r14 =>
 bd (rExt 1 [r13.1] r14.2) fun r15 =>
 bd (rIadr 1 [t0, t16] r15.2) fun r16 =>
 bd (rStore 1 [r16.1, r14.1] r16.2) fun r17 =>
 bd (rBinI .add [t16, .int .i64 1] r17.2) fun r18 =>
 bd (gc base [t0, t1, t2, r10.1, r15.1, t14, t15, r18.1] r18.2) fun r19 => O.loop [0, 1, 2, 7, 8, 14, 15, 16] [0, 1, 7, 8] nat_takes_b1 base r19.1 r19.2)
 (bd (gc base [t0, t1, t7, t8] r1.2) fun r20 => some ((.exit 0), r20.1, r20.2))
theorem S_nat_takes_b1 (O : Orc) (base : Nat) (t0 t1 t2 t7 t8 t14 t15 t16 : D) (m : Mem) : loopStep2 O [0, 1, 2, 7, 8, 14, 15, 16] [0, 1, 7, 8] nat_takes_b1 base [t0, t1, t2, t7, t8, t14, t15, t16] m = s_nat_takes_b1 O base t0 t1 t2 t7 t8 t14 t15 t16 m := by kernel_rfl
def s_nat_takes (O : Orc) (t0 t1 t2 : D) (m : Mem) : RV :=
 bd (rLenL [t1] m) fun r1 =>
 jn (O.loop [0, 1, 2, 7, 8, 14, 15, 16] [0, 1, 7, 8] nat_takes_b1 (List.length r1.2) [t0, t1, t2, (.int .u64 0), (.int .u64 0), t1, r1.1, (.int .i64 0)] r1.2) fun r2 =>
 exM (blkX 0 r2.1)
 (bd (rLenL [(hd (tl r2.2.1))] r2.2.2) fun r4 =>
 bd (rLenL [(hd (tl r2.2.1))] r4.2) fun r5 =>
 bd (rIadr 1 [(hd r2.2.1), r5.1] r5.2) fun r6 =>
 bd (rLoad1 [r6.1] r6.2) fun r7 =>
 bd (rCallc O bits_Sub64 [r7.1, (hd (tl (tl r2.2.1))), (hd (tl (tl (tl r2.2.1))))] r7.2) fun r8 =>
 bd (rExt 0 [r8.1] r8.2) fun r9 =>
 bd (rExt 1 [r8.1] r9.2) fun r10 =>
 bd (rIadr 1 [(hd r2.2.1), r4.1] r10.2) fun r11 =>
 bd (rStore 1 [r11.1, r9.1] r11.2) fun r12 =>
 bd (rBinI .neq [r10.1, .int .u64 0] r12.2) fun r13 =>
 bd (gc (List.length m) [r13.1] r13.2) fun r14 => some (tupD r14))
 (fun i3 => none)
 (none)
theorem S_nat_takes (O : Orc) (t0 t1 t2 : D) (m : Mem) : f_nat_takes.step2 O [t0, t1, t2] m = s_nat_takes O t0 t1 t2 m := by kernel_rfl
def s_nat_gives_b1 (O : Orc) (base : Nat) (t0 t1 t4 t7 t8 t9 : D) (m : Mem) : Option (Ex × List D × Mem) :=
 bd (rBinI .lss [t9, t8] m) fun r1 =>
 dCond r1.1
 (bd (rIadr 1 [t7, t9] r1.2) fun r2 =>
 bd (rLoad1 [r2.1] r2.2) fun r3 =>
 bd (rIadr 1 [t0, t9] r3.2) fun r4 =>
 bd (rLoad1 [r4.1] r4.2) fun r5 =>
 bd (rCallc O bits_Add64 [r5.1, r3.1, t4] r5.2) fun r6 =>
 bd (rExt 0 [r6.1] r6.2) fun r7 =>
 bd (rExt 1 [r6.1] r7.2) fun r8 =>
 bd (rIadr 1 [t0, t9] r8.2) fun r9 =>
 bd (rStore 1 [r9.1, r7.1] r9.2) fun r10 =>
 bd (rBinI .add [t9, .int .i64 1] r10.2) fun r11 =>
 bd (gc base [t0, t1, r8.1, t7, t8, r11.1] r11.2) fun r12 => O.loop [0, 1, 4, 7, 8, 9] [0, 1, 4] nat_gives_b1 base r12.1 r12.2)
 (bd (gc base [t0, t1, t4] r1.2) fun r13 => some ((.exit 0), r13.1, r13.2))
theorem S_nat_gives_b1 (O : Orc) (base : Nat) (t0 t1 t4 t7 t8 t9 : D) (m : Mem) : loopStep2 O [0, 1, 4, 7, 8, 9] [0, 1, 4] nat_gives_b1 base [t0, t1, t4, t7, t8, t9] m = s_nat_gives_b1 O base t0 t1 t4 t7 t8 t9 m := by kernel_rfl
def s_nat_gives (O : Orc) (t0 t1 : D) (m : Mem) : RV :=
 bd (rLenL [t1] m) fun r1 =>
 jn (O.loop [0, 1, 4, 7, 8, 9] [0, 1, 4] nat_gives_b1 (List.length r1.2) [t0, t1, (.int .u64 0), t1, r1.1, (.int .i64 0)] r1.2) fun r2 =>
 exM (blkX 0 r2.1)
 (bd (rLenL [(hd (tl r2.2.1))] r2.2.2) fun r4 =>
 bd (rIadr 1 [(hd r2.2.1), r4.1] r4.2) fun r5 =>
 bd (rLoad1 [r5.1] r5.2) fun r6 =>
 bd (rBinI .add [r6.1, (hd (tl (tl r2.2.1)))] r6.2) fun r7 =>
 bd (rIadr 1 [(hd r2.2.1), r4.1] r7.2) fun r8 =>
 bd (rStore 1 [r8.1, r7.1] r8.2) fun r9 =>
 bd (gc (List.length m) [] r9.2) fun r10 => some (tupD r10))
 (fun i3 => none)
 (bd (gc (List.length m) [] r2.2.2) fun r11 => some (tupD r11))
theorem S_nat_gives (O : Orc) (t0 t1 : D) (m : Mem) : f_nat_gives.step2 O [t0, t1] m = s_nat_gives O t0 t1 m := by kernel_rfl
def s_holi_Day (O : Orc) (t0 t1 : D) (m : Mem) : RV :=
 bd (rBox (List.length m) 0 [t0] (m ++ [.free])) fun r2 =>
 bd (rLoadA 6 [r2.1] r2.2) fun r3 =>
 bd (rCallc O holi_May [r3.1] r3.2) fun r4 =>
 bd (rNot [r4.1] r4.2) fun r5 =>
 dCond r5.1
 (bd (gc (List.length m) [(.int .i64 0), (.bool false)] r5.2) fun r6 => some (tupD r6))
 (bd (rFadr 0 [r2.1] r5.2) fun r7 =>
 bd (rLoad1 [r7.1] r7.2) fun r8 =>
 jn (bd (rBinI .eql [r8.1, .int .i64 1] r8.2) fun r9 =>
 jn (dCond r9.1
 (bd (rFadr 1 [r2.1] r9.2) fun r10 =>
 bd (rLoad1 [r10.1] r10.2) fun r11 =>
 bd (rFadr 2 [r2.1] r11.2) fun r12 =>
 bd (rLoad1 [r12.1] r12.2) fun r13 =>
 bd (rBuild [.int .i64 0, .int .i64 0, .int .i64 0] [(0, 1), (1, 1), (2, 1)] [t1, r11.1, r13.1] r13.2) fun r14 =>
 bd (rCallc O date_Of [r14.1] r14.2) fun r15 =>
 bd (rExt 0 [r15.1] r15.2) fun r16 =>
 bd (rExt 1 [r15.1] r16.2) fun r17 =>
 some (.normal, [r2.1, r16.1, (.bool true), r17.1], r17.2))
 (bd (rBinI .eql [r8.1, .int .i64 2] r9.2) fun r18 =>
 jn (dCond r18.1
 (bd (rLoadA 6 [r2.1] r18.2) fun r19 =>
 bd (rCallc O holi_nth [r19.1, t1] r19.2) fun r20 =>
 bd (rExt 0 [r20.1] r20.2) fun r21 =>
 bd (rExt 1 [r20.1] r21.2) fun r22 =>
 some (.normal, [r2.1, r21.1, r22.1, (.nili)], r22.2))
 (bd (rBinI .eql [r8.1, .int .i64 3] r18.2) fun r23 =>
 jn (dCond r23.1
 (bd (rCallc O easter_Sunday [t1] r23.2) fun r24 =>
 bd (rExt 0 [r24.1] r24.2) fun r25 =>
 bd (rExt 1 [r24.1] r25.2) fun r26 =>
 bd (rFadr 3 [r2.1] r26.2) fun r27 =>
 bd (rLoad1 [r27.1] r27.2) fun r28 =>
 bd (rBinI .add [r25.1, r28.1] r28.2) fun r29 =>
 some (.normal, [r2.1, r29.1, (.bool true), r26.1], r29.2))
 (some (.normal, [r2.1, (.int .i64 0), (.bool true), (.nili)], r23.2))) fun r30 =>
 some (r30.1, [(hd r30.2.1), (hd (tl r30.2.1)), (hd (tl (tl r30.2.1))), (hd (tl (tl (tl r30.2.1))))], r30.2.2))) fun r31 =>
 some (r31.1, [(hd r31.2.1), (hd (tl r31.2.1)), (hd (tl (tl r31.2.1))), (hd (tl (tl (tl r31.2.1))))], r31.2.2))) fun r32 =>
 some ((blkX 0 r32.1), [(hd r32.2.1), (hd (tl r32.2.1)), (hd (tl (tl r32.2.1))), (hd (tl (tl (tl r32.2.1))))], r32.2.2)) fun r33 =>
 exM r33.1
 (bd (rEqN true true [(hd (tl (tl (tl r33.2.1)))), .nili] r33.2.2) fun r35 =>
 bd (gop (wantsD r35.1 false) (rMov [(hd (tl (tl r33.2.1)))] r35.2) r35.2) fun r36 =>
 bd (gop (wantsD r35.1 false) (rNot [r36.1] r36.2) r36.2) fun r37 =>
 bd (rPick [r35.1, .bool true, r37.1] r37.2) fun r38 =>
 dCond r38.1
 (bd (gc (List.length m) [(.int .i64 0), (.bool false)] r38.2) fun r39 => some (tupD r39))
 (bd (rFadr 5 [(hd r33.2.1)] r38.2) fun r40 =>
 bd (rLoad1 [r40.1] r40.2) fun r41 =>
 jn (dCond r41.1
 (bd (rCallc O holi_shifted [(hd (tl r33.2.1))] r41.2) fun r42 =>
 some (.normal, [r42.1], r42.2))
 (some (.normal, [(hd (tl r33.2.1))], r41.2))) fun r43 =>
 exM r43.1
 (bd (rCallc O holi_within [(hd r43.2.1), .int .i64 0, .int .i64 109572] r43.2.2) fun r45 =>
 bd (rNot [r45.1] r45.2) fun r46 =>
 dCond r46.1
 (bd (gc (List.length m) [(.int .i64 0), (.bool false)] r46.2) fun r47 => some (tupD r47))
 (bd (gc (List.length m) [(hd r43.2.1), (.bool true)] r46.2) fun r48 => some (tupD r48)))
 (fun i44 => none)
 (none)))
 (fun i34 => none)
 (none))
theorem S_holi_Day (O : Orc) (t0 t1 : D) (m : Mem) : f_holi_Day.step2 O [t0, t1] m = s_holi_Day O t0 t1 m := by kernel_rfl
def s_holi_within (O : Orc) (t0 t1 t2 : D) (m : Mem) : RV :=
 bd (rBinI .geq [t0, t1] m) fun r1 =>
 bd (gop (wantsD r1.1 true) (rMov [t0] r1.2) r1.2) fun r2 =>
 bd (gop (wantsD r1.1 true) (rMov [t2] r2.2) r2.2) fun r3 =>
 bd (gop (wantsD r1.1 true) (rBinI .leq [r2.1, r3.1] r3.2) r3.2) fun r4 =>
 bd (rPick [r1.1, r4.1, .bool false] r4.2) fun r5 =>
 bd (gc (List.length m) [r5.1] r5.2) fun r6 => some (tupD r6)
theorem S_holi_within (O : Orc) (t0 t1 t2 : D) (m : Mem) : f_holi_within.step2 O [t0, t1, t2] m = s_holi_within O t0 t1 t2 m := by kernel_rfl
end Go.Ev.Code
end
section
end
