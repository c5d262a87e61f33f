/- A part of the proof of planStub_card, planEnd_card, planLone_card, bondLong_card. -/
import Derived.KernelRfl
import Derived.Test.YtgppbgfjhkjfcaaGreatDoorBFlat
import Derived.Test.YtgppbgfjhkjfcaaGreatDoorBCodeA
import Derived.Test.YtgppbgfjhkjfcaaGreatDoorBCodeB
import Derived.Test.YtgppbgfjhkjfcaaGreatDoorBCodeC
set_option linter.unusedVariables false
section
namespace Go.Ev.Code
open Go Go.Ev
set_option maxRecDepth 100000
def yt (O : aJ) (t0 t1 t2 : D) (m : Mem) : RV :=
 bd (au O dQ [] m) fun r1 =>
 bd (iI [r1.1] r1.2) fun r2 =>
 aH r2.1
 (bd (gc (List.length m) [(.bool false)] r2.2) fun r3 => some (aN r3))
 (bd (au O fE [.str [53], .int .i64 4] (r2.2 ++ [.free])) fun r5 =>
 bd (gG (List.length r2.2) 0 [.int .i64 0, .int .i64 0, .int .i64 0, .str [], .str [], .int .i64 0, .int .i64 0, .bool false, .int .i64 0] [] r5.2) fun r6 =>
 bd (bD 9 [r6.1, r5.1] r6.2) fun r7 =>
 bd (au O iJ [t0] r7.2) fun r8 =>
 bd (ak .rem [r8.1, .int .i64 80000] r8.2) fun r9 =>
 bd (ak .add [.int .i64 20000, r9.1] r9.2) fun r10 =>
 bd (aK 1 [r6.1] r10.2) fun r11 =>
 bd (bD 1 [r11.1, r10.1] r11.2) fun r12 =>
 bd (ak .rem [t1, .int .i64 8] r12.2) fun r13 =>
 bd (ak .add [r13.1, .int .i64 8] r13.2) fun r14 =>
 bd (ak .rem [r14.1, .int .i64 8] r14.2) fun r15 =>
 bd (ak .add [.int .i64 2, r15.1] r15.2) fun r16 =>
 bd (ak .rem [t2, .int .i64 27] r16.2) fun r17 =>
 bd (ak .add [r17.1, .int .i64 27] r17.2) fun r18 =>
 bd (ak .rem [r18.1, .int .i64 27] r18.2) fun r19 =>
 bd (ak .add [.int .i64 1, r19.1] r19.2) fun r20 =>
 bd (aK 1 [r6.1] r20.2) fun r21 =>
 bd (aB [r21.1] r21.2) fun r22 =>
 bd (ak .mul [.int .i64 (-6), r16.1] r22.2) fun r23 =>
 bd (au O dA [r22.1, r23.1, .bool false] r23.2) fun r24 =>
 bd (aS 0 [r24.1] r24.2) fun r25 =>
 bd (aS 1 [r24.1] r25.2) fun r26 =>
 bd (iI [r26.1] r26.2) fun r27 =>
 aH r27.1
 (bd (gc (List.length m) [(.bool false)] r27.2) fun r28 => some (aN r28))
 (bd (ak .add [r25.1, r20.1] r27.2) fun r29 =>
 bd (aK 0 [r6.1] r29.2) fun r30 =>
 bd (bD 1 [r30.1, r29.1] r30.2) fun r31 =>
 bd (aK 1 [r6.1] r31.2) fun r32 =>
 bd (aB [r32.1] r32.2) fun r33 =>
 bd (ak .sub [r16.1, .int .i64 1] r33.2) fun r34 =>
 bd (ak .mul [.int .i64 (-6), r34.1] r34.2) fun r35 =>
 bd (au O dA [r33.1, r35.1, .bool false] r35.2) fun r36 =>
 bd (aS 0 [r36.1] r36.2) fun r37 =>
 bd (aS 1 [r36.1] r37.2) fun r38 =>
 bd (dh 9 [r6.1] r38.2) fun r39 =>
 bd (au O fV [r39.1] r39.2) fun r40 =>
 bd (aS 0 [r40.1] r40.2) fun r41 =>
 bd (aS 1 [r40.1] r41.2) fun r42 =>
 bd (aK 6 [r6.1] r42.2) fun r43 =>
 bd (bD 1 [r43.1, .int .i64 1] r43.2) fun r44 =>
 bd (dh 9 [r6.1] r44.2) fun r45 =>
 bd (au O fV [r45.1] r45.2) fun r46 =>
 bd (aS 0 [r46.1] r46.2) fun r47 =>
 bd (aS 1 [r46.1] r47.2) fun r48 =>
 bd (aK 6 [r6.1] r48.2) fun r49 =>
 bd (bD 1 [r49.1, .int .i64 2] r49.2) fun r50 =>
 bd (dh 9 [r6.1] r50.2) fun r51 =>
 bd (au O fV [r51.1] r51.2) fun r52 =>
 bd (aS 0 [r52.1] r52.2) fun r53 =>
 bd (aS 1 [r52.1] r53.2) fun r54 =>
 bd (au O f_ [r42.1, .int .i64 5] r54.2) fun r55 =>
 bd (iI [r55.1] r55.2) fun r56 =>
 bd (aG (ay r56.1 false) (bI [r41.1] r56.2) r56.2) fun r57 =>
 bd (aG (ay r56.1 false) (cZ [r57.1] r57.2) r57.2) fun r58 =>
 bd (aG (ay r56.1 false) (ak .neq [r58.1, .int .i64 0] r58.2) r58.2) fun r59 =>
 bd (bJ [r56.1, .bool true, r59.1] r59.2) fun r60 =>
 bd (aG (ay r60.1 false) (bI [r48.1] r60.2) r60.2) fun r61 =>
 bd (aG (ay r60.1 false) (iH true true [r61.1, .aC] r61.2) r61.2) fun r62 =>
 bd (bJ [r60.1, .bool true, r62.1] r62.2) fun r63 =>
 bd (aG (ay r63.1 false) (bI [r54.1] r63.2) r63.2) fun r64 =>
 bd (aG (ay r63.1 false) (iH true true [r64.1, .aC] r64.2) r64.2) fun r65 =>
 bd (bJ [r63.1, .bool true, r65.1] r65.2) fun r66 =>
 bd (aG (ay r66.1 false) (bI [r47.1] r66.2) r66.2) fun r67 =>
 bd (aG (ay r66.1 false) (cZ [r67.1] r67.2) r67.2) fun r68 =>
 bd (aG (ay r66.1 false) (bI [r16.1] r68.2) r68.2) fun r69 =>
 bd (aG (ay r66.1 false) (ak .neq [r68.1, r69.1] r69.2) r69.2) fun r70 =>
 bd (bJ [r66.1, .bool true, r70.1] r70.2) fun r71 =>
 bd (aG (ay r71.1 false) (bI [r53.1] r71.2) r71.2) fun r72 =>
 bd (aG (ay r71.1 false) (cZ [r72.1] r72.2) r72.2) fun r73 =>
 bd (aG (ay r71.1 false) (bI [r16.1] r73.2) r73.2) fun r74 =>
 bd (aG (ay r71.1 false) (ak .sub [r74.1, .int .i64 1] r74.2) r74.2) fun r75 =>
 bd (aG (ay r71.1 false) (ak .neq [r73.1, r75.1] r75.2) r75.2) fun r76 =>
 bd (bJ [r71.1, .bool true, r76.1] r76.2) fun r77 =>
 aH r77.1
 (bd (gc (List.length m) [(.bool false)] r77.2) fun r78 => some (aN r78))
 (bd (aK 1 [r6.1] r77.2) fun r79 =>
 bd (aB [r79.1] r79.2) fun r80 =>
 bd (ak .sub [r16.1, .int .i64 2] r80.2) fun r81 =>
 bd (ak .mul [.int .i64 (-6), r81.1] r81.2) fun r82 =>
 bd (au O dA [r80.1, r82.1, .bool false] r82.2) fun r83 =>
 bd (aS 0 [r83.1] r83.2) fun r84 =>
 bd (aS 1 [r83.1] r84.2) fun r85 =>
 bd (bT 2 [r47.1, .int .i64 0] r85.2) fun r86 =>
 bd (dh 2 [r86.1] r86.2) fun r87 =>
 bd (aK 0 [r6.1] r87.2) fun r88 =>
 bd (aB [r88.1] r88.2) fun r89 =>
 bd (jh [.int .i64 0, .int .i64 0] [(0, 1), (1, 1)] [r89.1, r37.1] r89.2) fun r90 =>
 bd (TA false [1, 1] [r87.1, r90.1] r90.2) fun r91 =>
 bd (aG (ay r91.1 true) (bI [r53.1] r91.2) r91.2) fun r92 =>
 bd (aG (ay r91.1 true) (bT 2 [r92.1, .int .i64 0] r92.2) r92.2) fun r93 =>
 bd (aG (ay r91.1 true) (dh 2 [r93.1] r93.2) r93.2) fun r94 =>
 bd (aG (ay r91.1 true) (aK 0 [r6.1] r94.2) r94.2) fun r95 =>
 bd (aG (ay r91.1 true) (aB [r95.1] r95.2) r95.2) fun r96 =>
 bd (aG (ay r91.1 true) (bI [r84.1] r96.2) r96.2) fun r97 =>
 bd (aG (ay r91.1 true) (jh [.int .i64 0, .int .i64 0] [(0, 1), (1, 1)] [r96.1, r97.1] r97.2) r97.2) fun r98 =>
 bd (aG (ay r91.1 true) (TA false [1, 1] [r94.1, r98.1] r98.2) r98.2) fun r99 =>
 bd (bJ [r91.1, r99.1, .bool false] r99.2) fun r100 =>
 bd (aG (ay r100.1 true) (dh 9 [r6.1] r100.2) r100.2) fun r101 =>
 bd (aG (ay r100.1 true) (bI [r47.1] r101.2) r101.2) fun r102 =>
 bd (aG (ay r100.1 true) (bT 2 [r102.1, .int .i64 0] r102.2) r102.2) fun r103 =>
 bd (aG (ay r100.1 true) (dh 2 [r103.1] r103.2) r103.2) fun r104 =>
 bd (aG (ay r100.1 true) (au O g_ [r101.1, r104.1] r104.2) r104.2) fun r105 =>
 bd (aG (ay r100.1 true) (iI [r105.1] r105.2) r105.2) fun r106 =>
 bd (bJ [r100.1, r106.1, .bool false] r106.2) fun r107 =>
 bd (aG (ay r107.1 true) (dh 9 [r6.1] r107.2) r107.2) fun r108 =>
 bd (aG (ay r107.1 true) (bI [r53.1] r108.2) r108.2) fun r109 =>
 bd (aG (ay r107.1 true) (bT 2 [r109.1, .int .i64 0] r109.2) r109.2) fun r110 =>
 bd (aG (ay r107.1 true) (dh 2 [r110.1] r110.2) r110.2) fun r111 =>
 bd (aG (ay r107.1 true) (au O g_ [r108.1, r111.1] r111.2) r111.2) fun r112 =>
 bd (aG (ay r107.1 true) (iI [r112.1] r112.2) r112.2) fun r113 =>
 bd (bJ [r107.1, r113.1, .bool false] r113.2) fun r114 =>
 bd (gc (List.length m) [r114.1] r114.2) fun r115 => some (aN r115))))
theorem J6 (O : aJ) (t0 t1 t2 : D) (m : Mem) : qG.step2 O [t0, t1, t2] m = yt O t0 t1 t2 m := by kernel_rfl
def kN (O : aJ) (base : Nat) (t2 t3 t13 t71 t72 : D) (m : Mem) : Option (Ex × List D × Mem) :=
 bd (ak .lss [t72, t71] m) fun r1 =>
 aH r1.1
 (bd (aG (ay t3 true) (bI [t13] r1.2) r1.2) fun r2 =>
 bd (aG (ay t3 true) (bI [t72] r2.2) r2.2) fun r3 =>
 bd (aG (ay t3 true) (bT 2 [r2.1, r3.1] r3.2) r3.2) fun r4 =>
 bd (aG (ay t3 true) (aK 1 [r4.1] r4.2) r4.2) fun r5 =>
 bd (aG (ay t3 true) (aB [r5.1] r5.2) r5.2) fun r6 =>
 bd (aG (ay t3 true) (au O mZ [r6.1] r6.2) r6.2) fun r7 =>
 bd (aG (ay t3 true) (iI [r7.1] r7.2) r7.2) fun r8 =>
 bd (bJ [t3, r8.1, .bool false] r8.2) fun r9 =>
 bd (aG (ay r9.1 false) (bI [t13] r9.2) r9.2) fun r10 =>
 bd (aG (ay r9.1 false) (bI [t72] r10.2) r10.2) fun r11 =>
 bd (aG (ay r9.1 false) (bT 2 [r10.1, r11.1] r11.2) r11.2) fun r12 =>
 bd (aG (ay r9.1 false) (aK 0 [r12.1] r12.2) r12.2) fun r13 =>
 bd (aG (ay r9.1 false) (aB [r13.1] r13.2) r13.2) fun r14 =>
 bd (aG (ay r9.1 false) (bI [t13] r14.2) r14.2) fun r15 =>
 bd (aG (ay r9.1 false) (bI [t72] r15.2) r15.2) fun r16 =>
 bd (aG (ay r9.1 false) (bT 2 [r15.1, r16.1] r16.2) r16.2) fun r17 =>
 bd (aG (ay r9.1 false) (aK 1 [r17.1] r17.2) r17.2) fun r18 =>
 bd (aG (ay r9.1 false) (aB [r18.1] r18.2) r18.2) fun r19 =>
 bd (aG (ay r9.1 false) (au O iO [r14.1, r19.1] r19.2) r19.2) fun r20 =>
 bd (aG (ay r9.1 false) (bI [t2] r20.2) r20.2) fun r21 =>
 bd (aG (ay r9.1 false) (ak .quo [.int .i64 12, r21.1] r21.2) r21.2) fun r22 =>
 bd (aG (ay r9.1 false) (ak .neq [r20.1, r22.1] r22.2) r22.2) fun r23 =>
 bd (bJ [r9.1, .bool true, r23.1] r23.2) fun r24 =>
 aH r24.1
 (bd (gc base [(.bool false)] r24.2) fun r25 => some (.ret, r25.1, r25.2))
 (bd (ak .add [t72, .int .i64 1] r24.2) fun r26 =>
 bd (gc base [t2, t3, t13, t71, r26.1] r26.2) fun r27 => O.loop [2, 3, 13, 71, 72] [8] jH base r27.1 r27.2))
 (bd (gc base [.undef] r1.2) fun r28 => some ((.exit 0), r28.1, r28.2))
theorem wG (O : aJ) (base : Nat) (t2 t3 t13 t71 t72 : D) (m : Mem) : bY O [2, 3, 13, 71, 72] [8] jH base [t2, t3, t13, t71, t72] m = kN O base t2 t3 t13 t71 t72 m := by kernel_rfl
def yZ (O : aJ) (t0 t1 t2 t3 : D) (m : Mem) : RV :=
 bd (au O dQ [] m) fun r1 =>
 bd (iI [r1.1] r1.2) fun r2 =>
 aH r2.1
 (bd (gc (List.length m) [(.bool false)] r2.2) fun r3 => some (aN r3))
 (bd (ak .rem [t0, .int .i64 150] r2.2) fun r4 =>
 bd (ak .add [r4.1, .int .i64 150] r4.2) fun r5 =>
 bd (ak .rem [r5.1, .int .i64 150] r5.2) fun r6 =>
 bd (ak .add [.int .i64 1960, r6.1] r6.2) fun r7 =>
 bd (ak .rem [t1, .int .i64 12] r7.2) fun r8 =>
 bd (ak .add [r8.1, .int .i64 12] r8.2) fun r9 =>
 bd (ak .rem [r9.1, .int .i64 12] r9.2) fun r10 =>
 bd (ak .add [.int .i64 1, r10.1] r10.2) fun r11 =>
 bd (DW 3 [.int .i64 0] [(0, 1), (1, 1), (2, 1)] [.int .i64 1, .int .i64 2, .int .i64 4] r11.2) fun r12 =>
 bd (ak .rem [t2, .int .i64 3] r12.2) fun r13 =>
 bd (ak .add [r13.1, .int .i64 3] r13.2) fun r14 =>
 bd (ak .rem [r14.1, .int .i64 3] r14.2) fun r15 =>
 bd (bT 1 [r12.1, r15.1] r15.2) fun r16 =>
 bd (Jz [r16.1] r16.2) fun r17 =>
 bd (au O tZ [r7.1, r11.1] r17.2) fun r18 =>
 bd (aS 0 [r18.1] r18.2) fun r19 =>
 bd (aS 1 [r18.1] r19.2) fun r20 =>
 bd (au O fE [.str [52], .int .i64 1] (r20.2 ++ [.free])) fun r22 =>
 bd (gG (List.length r20.2) 0 [.int .i64 0, .int .i64 0, .int .i64 0, .str [], .str [], .int .i64 0, .int .i64 0, .bool false, .int .i64 0] [] r22.2) fun r23 =>
 bd (bD 9 [r23.1, r22.1] r23.2) fun r24 =>
 bd (aK 2 [r23.1] r24.2) fun r25 =>
 bd (bD 1 [r25.1, r17.1] r25.2) fun r26 =>
 bd (aK 7 [r23.1] r26.2) fun r27 =>
 bd (bD 1 [r27.1, t3] r27.2) fun r28 =>
 bd (aK 1 [r23.1] r28.2) fun r29 =>
 bd (bD 1 [r29.1, r19.1] r29.2) fun r30 =>
 bd (au O dA [r19.1, .int .i64 (-60), t3] r30.2) fun r31 =>
 bd (aS 0 [r31.1] r31.2) fun r32 =>
 bd (aS 1 [r31.1] r32.2) fun r33 =>
 bd (aK 0 [r23.1] r33.2) fun r34 =>
 bd (bD 1 [r34.1, r32.1] r34.2) fun r35 =>
 bd (dh 9 [r23.1] r35.2) fun r36 =>
 bd (au O fV [r36.1] r36.2) fun r37 =>
 bd (aS 0 [r37.1] r37.2) fun r38 =>
 bd (aS 1 [r37.1] r38.2) fun r39 =>
 bd (iH true true [r39.1, .aC] r39.2) fun r40 =>
 bd (aG (ay r40.1 false) (bI [r38.1] r40.2) r40.2) fun r41 =>
 bd (aG (ay r40.1 false) (cZ [r41.1] r41.2) r41.2) fun r42 =>
 bd (aG (ay r40.1 false) (bI [r17.1] r42.2) r42.2) fun r43 =>
 bd (aG (ay r40.1 false) (ak .mul [.int .i64 5, r43.1] r43.2) r43.2) fun r44 =>
 bd (aG (ay r40.1 false) (ak .neq [r42.1, r44.1] r44.2) r44.2) fun r45 =>
 bd (bJ [r40.1, .bool true, r45.1] r45.2) fun r46 =>
 aH r46.1
 (bd (gc (List.length m) [(.bool false)] r46.2) fun r47 => some (aN r47))
 (bd (cZ [r38.1] r46.2) fun r48 =>
 jn (O.loop [2, 3, 13, 71, 72] [8] jH (List.length r48.2) [r17.1, t3, r38.1, r48.1, (.int .i64 0)] r48.2) fun r49 =>
 dR (dL 0 r49.1)
 (bd (gc (List.length m) [(.bool true)] r49.2.2) fun r51 => some (aN r51))
 (fun i50 => none)
 (bd (gc (List.length m) [(hd r49.2.1)] r49.2.2) fun r52 => some (aN r52))))
theorem L8 (O : aJ) (t0 t1 t2 t3 : D) (m : Mem) : rM.step2 O [t0, t1, t2, t3] m = yZ O t0 t1 t2 t3 m := by kernel_rfl
def qK (O : aJ) (t0 t1 t2 : D) (m : Mem) : RV :=
 bd (au O dQ [] m) fun r1 =>
 bd (iI [r1.1] r1.2) fun r2 =>
 aH r2.1
 (bd (gc (List.length m) [(.bool false)] r2.2) fun r3 => some (aN r3))
 (bd (au O fE [.str [53], .int .i64 1] (r2.2 ++ [.free])) fun r5 =>
 bd (gG (List.length r2.2) 0 [.int .i64 0, .int .i64 0, .int .i64 0, .str [], .str [], .int .i64 0, .int .i64 0, .bool false, .int .i64 0] [] r5.2) fun r6 =>
 bd (bD 9 [r6.1, r5.1] r6.2) fun r7 =>
 bd (au O iJ [t0] r7.2) fun r8 =>
 bd (ak .rem [r8.1, .int .i64 80000] r8.2) fun r9 =>
 bd (ak .add [.int .i64 20000, r9.1] r9.2) fun r10 =>
 bd (aK 1 [r6.1] r10.2) fun r11 =>
 bd (bD 1 [r11.1, r10.1] r11.2) fun r12 =>
 bd (aK 1 [r6.1] r12.2) fun r13 =>
 bd (aB [r13.1] r13.2) fun r14 =>
 bd (ak .sub [r14.1, .int .i64 1] r14.2) fun r15 =>
 bd (ak .rem [t1, .int .i64 150] r15.2) fun r16 =>
 bd (ak .add [r16.1, .int .i64 150] r16.2) fun r17 =>
 bd (ak .rem [r17.1, .int .i64 150] r17.2) fun r18 =>
 bd (ak .sub [r15.1, r18.1] r18.2) fun r19 =>
 bd (aK 0 [r6.1] r19.2) fun r20 =>
 bd (bD 1 [r20.1, r19.1] r20.2) fun r21 =>
 bd (aK 6 [r6.1] r21.2) fun r22 =>
 bd (bD 1 [r22.1, .int .i64 1] r22.2) fun r23 =>
 jn (aH t2
 (bd (aK 6 [r6.1] r23.2) fun r24 =>
 bd (bD 1 [r24.1, .int .i64 2] r24.2) fun r25 =>
 some (.normal, [r6.1], r25.2))
 (some (.normal, [r6.1], r23.2))) fun r26 =>
 dR r26.1
 (bd (dh 9 [(hd r26.2.1)] r26.2.2) fun r28 =>
 bd (au O fV [r28.1] r28.2) fun r29 =>
 bd (aS 0 [r29.1] r29.2) fun r30 =>
 bd (aS 1 [r29.1] r30.2) fun r31 =>
 bd (dh 9 [(hd r26.2.1)] r31.2) fun r32 =>
 bd (au O sS [r32.1] r32.2) fun r33 =>
 bd (aS 0 [r33.1] r33.2) fun r34 =>
 bd (aS 1 [r33.1] r34.2) fun r35 =>
 bd (iH false true [r31.1, .aC] r35.2) fun r36 =>
 bd (aG (ay r36.1 true) (bI [r30.1] r36.2) r36.2) fun r37 =>
 bd (aG (ay r36.1 true) (cZ [r37.1] r37.2) r37.2) fun r38 =>
 bd (aG (ay r36.1 true) (ak .eql [r38.1, .int .i64 1] r38.2) r38.2) fun r39 =>
 bd (bJ [r36.1, r39.1, .bool false] r39.2) fun r40 =>
 bd (aG (ay r40.1 true) (bI [r30.1] r40.2) r40.2) fun r41 =>
 bd (aG (ay r40.1 true) (bT 2 [r41.1, .int .i64 0] r41.2) r41.2) fun r42 =>
 bd (aG (ay r40.1 true) (dh 2 [r42.1] r42.2) r42.2) fun r43 =>
 bd (aG (ay r40.1 true) (aK 0 [(hd r26.2.1)] r43.2) r43.2) fun r44 =>
 bd (aG (ay r40.1 true) (aB [r44.1] r44.2) r44.2) fun r45 =>
 bd (aG (ay r40.1 true) (aK 1 [(hd r26.2.1)] r45.2) r45.2) fun r46 =>
 bd (aG (ay r40.1 true) (aB [r46.1] r46.2) r46.2) fun r47 =>
 bd (aG (ay r40.1 true) (jh [.int .i64 0, .int .i64 0] [(0, 1), (1, 1)] [r45.1, r47.1] r47.2) r47.2) fun r48 =>
 bd (aG (ay r40.1 true) (TA false [1, 1] [r43.1, r48.1] r48.2) r48.2) fun r49 =>
 bd (bJ [r40.1, r49.1, .bool false] r49.2) fun r50 =>
 bd (aG (ay r50.1 true) (bI [r35.1] r50.2) r50.2) fun r51 =>
 bd (aG (ay r50.1 true) (iH false true [r51.1, .aC] r51.2) r51.2) fun r52 =>
 bd (bJ [r50.1, r52.1, .bool false] r52.2) fun r53 =>
 bd (aG (ay r53.1 true) (bI [r34.1] r53.2) r53.2) fun r54 =>
 bd (aG (ay r53.1 true) (cZ [r54.1] r54.2) r54.2) fun r55 =>
 bd (aG (ay r53.1 true) (ak .eql [r55.1, .int .i64 1] r55.2) r55.2) fun r56 =>
 bd (bJ [r53.1, r56.1, .bool false] r56.2) fun r57 =>
 bd (aG (ay r57.1 true) (bI [r34.1] r57.2) r57.2) fun r58 =>
 bd (aG (ay r57.1 true) (bT 2 [r58.1, .int .i64 0] r58.2) r58.2) fun r59 =>
 bd (aG (ay r57.1 true) (aK 0 [r59.1] r59.2) r59.2) fun r60 =>
 bd (aG (ay r57.1 true) (aB [r60.1] r60.2) r60.2) fun r61 =>
 bd (aG (ay r57.1 true) (aK 1 [(hd r26.2.1)] r61.2) r61.2) fun r62 =>
 bd (aG (ay r57.1 true) (aB [r62.1] r62.2) r62.2) fun r63 =>
 bd (aG (ay r57.1 true) (ak .eql [r61.1, r63.1] r63.2) r63.2) fun r64 =>
 bd (bJ [r57.1, r64.1, .bool false] r64.2) fun r65 =>
 bd (gc (List.length m) [r65.1] r65.2) fun r66 => some (aN r66))
 (fun i27 => none)
 (none))
theorem J5 (O : aJ) (t0 t1 t2 : D) (m : Mem) : qF.step2 O [t0, t1, t2] m = qK O t0 t1 t2 m := by kernel_rfl
def lW (O : aJ) (t0 t1 t2 : D) (m : Mem) : RV :=
 bd (au O dQ [] m) fun r1 =>
 bd (iI [r1.1] r1.2) fun r2 =>
 aH r2.1
 (bd (gc (List.length m) [(.bool false)] r2.2) fun r3 => some (aN r3))
 (bd (au O fE [.str [53], .int .i64 4] (r2.2 ++ [.free])) fun r5 =>
 bd (gG (List.length r2.2) 0 [.int .i64 0, .int .i64 0, .int .i64 0, .str [], .str [], .int .i64 0, .int .i64 0, .bool false, .int .i64 0] [] r5.2) fun r6 =>
 bd (bD 9 [r6.1, r5.1] r6.2) fun r7 =>
 bd (au O iJ [t0] r7.2) fun r8 =>
 bd (Oc [r8.1, .int .i64 97572] r8.2) fun r9 =>
 bd (DW 4 [.int .i64 0] [(0, 1), (1, 1), (2, 1), (3, 1)] [.int .i64 1, .int .i64 2, .int .i64 4, .int .i64 12] r9.2) fun r10 =>
 bd (ak .rem [t1, .int .i64 4] r10.2) fun r11 =>
 bd (ak .add [r11.1, .int .i64 4] r11.2) fun r12 =>
 bd (ak .rem [r12.1, .int .i64 4] r12.2) fun r13 =>
 bd (bT 1 [r10.1, r13.1] r13.2) fun r14 =>
 bd (Jz [r14.1] r14.2) fun r15 =>
 bd (aK 0 [r6.1] r15.2) fun r16 =>
 bd (bD 1 [r16.1, r9.1] r16.2) fun r17 =>
 bd (aK 2 [r6.1] r17.2) fun r18 =>
 bd (bD 1 [r18.1, r15.1] r18.2) fun r19 =>
 bd (aK 6 [r6.1] r19.2) fun r20 =>
 bd (bD 1 [r20.1, .int .i64 1] r20.2) fun r21 =>
 bd (aK 0 [r6.1] r21.2) fun r22 =>
 bd (aB [r22.1] r22.2) fun r23 =>
 bd (au O dA [r23.1, .int .i64 360, .bool false] r23.2) fun r24 =>
 bd (aS 0 [r24.1] r24.2) fun r25 =>
 bd (aS 1 [r24.1] r25.2) fun r26 =>
 bd (iI [r26.1] r26.2) fun r27 =>
 aH r27.1
 (bd (gc (List.length m) [(.bool false)] r27.2) fun r28 => some (aN r28))
 (bd (ak .rem [t2, .int .i64 3] r27.2) fun r29 =>
 bd (ak .add [r25.1, r29.1] r29.2) fun r30 =>
 bd (aK 1 [r6.1] r30.2) fun r31 =>
 bd (bD 1 [r31.1, r30.1] r31.2) fun r32 =>
 bd (dh 9 [r6.1] r32.2) fun r33 =>
 bd (au O nJ [r33.1] r33.2) fun r34 =>
 bd (aS 0 [r34.1] r34.2) fun r35 =>
 bd (aS 1 [r34.1] r35.2) fun r36 =>
 bd (dh 9 [r6.1] r36.2) fun r37 =>
 bd (au O gW [r37.1] r37.2) fun r38 =>
 bd (aK 1 [r6.1] r38.2) fun r39 =>
 bd (aB [r39.1] r39.2) fun r40 =>
 bd (ak .gtr [r40.1, r25.1] r40.2) fun r41 =>
 aH r41.1
 (bd (ak .eql [r35.1, .int .i64 5] r41.2) fun r42 =>
 bd (aG (ay r42.1 true) (bI [r36.1] r42.2) r42.2) fun r43 =>
 bd (aG (ay r42.1 true) (kM .eql [r43.1, .str [109, 97, 116, 117, 114, 101]] r43.2) r43.2) fun r44 =>
 bd (bJ [r42.1, r44.1, .bool false] r44.2) fun r45 =>
 bd (aG (ay r45.1 true) (bI [r38.1] r45.2) r45.2) fun r46 =>
 bd (aG (ay r45.1 true) (bI [r35.1] r46.2) r46.2) fun r47 =>
 bd (aG (ay r45.1 true) (au O f_ [r46.1, r47.1] r47.2) r47.2) fun r48 =>
 bd (bJ [r45.1, r48.1, .bool false] r48.2) fun r49 =>
 bd (gc (List.length m) [r49.1] r49.2) fun r50 => some (aN r50))
 (bd (au O f_ [r38.1, r35.1] r41.2) fun r51 =>
 bd (aG (ay r51.1 true) (aK 2 [r6.1] r51.2) r51.2) fun r52 =>
 bd (aG (ay r51.1 true) (aB [r52.1] r52.2) r52.2) fun r53 =>
 bd (aG (ay r51.1 true) (ak .eql [r53.1, .int .i64 12] r53.2) r53.2) fun r54 =>
 bd (aG (ay r51.1 true) (bI [r35.1] r54.2) r54.2) fun r55 =>
 bd (aG (ay r51.1 true) (ak .eql [r55.1, .int .i64 5] r55.2) r55.2) fun r56 =>
 bd (aG (ay r51.1 true) (bI [r56.1] r56.2) r56.2) fun r57 =>
 bd (aG (ay r57.1 true) (bI [r36.1] r57.2) r57.2) fun r58 =>
 bd (aG (ay r57.1 true) (kM .eql [r58.1, .str [102, 108, 111, 119, 115]] r58.2) r58.2) fun r59 =>
 bd (aG (ay r51.1 true) (bJ [r57.1, r59.1, .bool false] r59.2) r59.2) fun r60 =>
 bd (aG (ay r51.1 true) (WV false [r54.1, r60.1] r60.2) r60.2) fun r61 =>
 bd (bJ [r51.1, r61.1, .bool false] r61.2) fun r62 =>
 bd (gc (List.length m) [r62.1] r62.2) fun r63 => some (aN r63))))
theorem J4 (O : aJ) (t0 t1 t2 : D) (m : Mem) : qE.step2 O [t0, t1, t2] m = lW O t0 t1 t2 m := by kernel_rfl
def BQ (O : aJ) (t0 t1 : D) (m : Mem) : RV :=
 bd (gG (List.length m) 0 [.int .i64 0, .int .i64 0, .int .i64 0, .str [], .str [], .int .i64 0, .int .i64 0, .bool false, .int .i64 0] [] (m ++ [.free])) fun r2 =>
 bd (jh [.int .i64 0, .int .i64 0, .int .i64 0, .str [], .str [], .int .i64 0, .int .i64 0, .bool false, .int .i64 0] [(0, 1), (1, 1), (2, 1), (3, 1), (4, 1), (5, 1), (6, 1)] [.int .i64 36524, .int .i64 38351, .int .i64 2, t0, .str [49, 48, 48], t1, .int .i64 0] r2.2) fun r3 =>
 bd (bD 9 [r2.1, r3.1] r3.2) fun r4 =>
 bd (Aq [(4, r2.1)] r4.2 [.cell 4 true 9]) fun rs => bd (gc (List.length m) rs r4.2) fun r5 => some (aN r5)
theorem QB (O : aJ) (t0 t1 : D) (m : Mem) : wo.step2 O [t0, t1] m = BQ O t0 t1 m := by kernel_rfl
def EZ (O : aJ) (t0 : D) (m : Mem) : RV :=
 bd (ak .rem [t0, .int .i64 109573] m) fun r1 =>
 bd (ak .add [r1.1, .int .i64 109572] r1.2) fun r2 =>
 bd (ak .add [r2.1, .int .i64 1] r2.2) fun r3 =>
 bd (ak .rem [r3.1, .int .i64 109573] r3.2) fun r4 =>
 bd (gc (List.length m) [r4.1] r4.2) fun r5 => some (aN r5)
theorem Q_ (O : aJ) (t0 : D) (m : Mem) : wR.step2 O [t0] m = EZ O t0 m := by kernel_rfl
def iU (O : aJ) (base : Nat) (t1 t8 t9 : D) (m : Mem) : Option (Ex × List D × Mem) :=
 bd (ak .gtr [t1, .int .i64 0] m) fun r1 =>
 aH r1.1
 (jn (bd (aK 1 [t8] r1.2) fun r2 =>
 bd (aB [r2.1] r2.2) fun r3 =>
 bd (ak .add [r3.1, .int .i64 1] r3.2) fun r4 =>
 bd (aK 1 [t8] r4.2) fun r5 =>
 bd (bD 1 [r5.1, r4.1] r5.2) fun r6 =>
 bd (aK 1 [t8] r6.2) fun r7 =>
 bd (aB [r7.1] r7.2) fun r8 =>
 bd (ak .gtr [r8.1, .int .i64 12] r8.2) fun r9 =>
 jn (aH r9.1
 (bd (aK 0 [t8] r9.2) fun r10 =>
 bd (aB [r10.1] r10.2) fun r11 =>
 bd (ak .add [r11.1, .int .i64 1] r11.2) fun r12 =>
 bd (aK 0 [t8] r12.2) fun r13 =>
 bd (bD 1 [r13.1, r12.1] r13.2) fun r14 =>
 bd (aK 1 [t8] r14.2) fun r15 =>
 bd (bD 1 [r15.1, .int .i64 1] r15.2) fun r16 =>
 some (.normal, [t1, t8, t9], r16.2))
 (some (.normal, [t1, t8, t9], r9.2))) fun r17 =>
 some ((dL 1 r17.1), [(hd r17.2.1), (hd (tl r17.2.1)), (hd (tl (tl r17.2.1)))], r17.2.2)) fun r18 =>
 dR r18.1
 (bd (ak .sub [(hd r18.2.1), .int .i64 1] r18.2.2) fun r20 =>
 bd (gc base [r20.1, (hd (tl r18.2.1)), (hd (tl (tl r18.2.1)))] r20.2) fun r21 => O.loop [1, 8, 9] [1, 8, 9] fQ base r21.1 r21.2)
 (fun i19 => bd (gc base [(hd r18.2.1), (hd (tl r18.2.1)), (hd (tl (tl r18.2.1)))] r18.2.2) fun r22 => some ((.exit i19), r22.1, r22.2))
 (bd (gc base [(hd r18.2.1), (hd (tl r18.2.1)), (hd (tl (tl r18.2.1)))] r18.2.2) fun r23 => some (.ret, r23.1, r23.2)))
 (bd (gc base [t1, t8, t9] r1.2) fun r24 => some ((.exit 0), r24.1, r24.2))
theorem jX (O : aJ) (base : Nat) (t1 t8 t9 : D) (m : Mem) : bY O [1, 8, 9] [1, 8, 9] fQ base [t1, t8, t9] m = iU O base t1 t8 t9 m := by kernel_rfl
def jY (O : aJ) (base : Nat) (t1 t8 t9 : D) (m : Mem) : Option (Ex × List D × Mem) :=
 bd (ak .lss [t1, .int .i64 0] m) fun r1 =>
 aH r1.1
 (jn (bd (aK 1 [t8] r1.2) fun r2 =>
 bd (aB [r2.1] r2.2) fun r3 =>
 bd (ak .sub [r3.1, .int .i64 1] r3.2) fun r4 =>
 bd (aK 1 [t8] r4.2) fun r5 =>
 bd (bD 1 [r5.1, r4.1] r5.2) fun r6 =>
 bd (aK 1 [t8] r6.2) fun r7 =>
 bd (aB [r7.1] r7.2) fun r8 =>
 bd (ak .lss [r8.1, .int .i64 1] r8.2) fun r9 =>
 jn (aH r9.1
 (bd (aK 0 [t8] r9.2) fun r10 =>
 bd (aB [r10.1] r10.2) fun r11 =>
 bd (ak .sub [r11.1, .int .i64 1] r11.2) fun r12 =>
 bd (aK 0 [t8] r12.2) fun r13 =>
 bd (bD 1 [r13.1, r12.1] r13.2) fun r14 =>
 bd (aK 1 [t8] r14.2) fun r15 =>
 bd (bD 1 [r15.1, .int .i64 12] r15.2) fun r16 =>
 some (.normal, [t1, t8, t9], r16.2))
 (some (.normal, [t1, t8, t9], r9.2))) fun r17 =>
 some ((dL 3 r17.1), [(hd r17.2.1), (hd (tl r17.2.1)), (hd (tl (tl r17.2.1)))], r17.2.2)) fun r18 =>
 dR r18.1
 (bd (ak .add [(hd r18.2.1), .int .i64 1] r18.2.2) fun r20 =>
 bd (gc base [r20.1, (hd (tl r18.2.1)), (hd (tl (tl r18.2.1)))] r20.2) fun r21 => O.loop [1, 8, 9] [8, 9] h_ base r21.1 r21.2)
 (fun i19 => bd (gc base [(hd (tl r18.2.1)), (hd (tl (tl r18.2.1)))] r18.2.2) fun r22 => some ((.exit i19), r22.1, r22.2))
 (bd (gc base [(hd (tl r18.2.1)), (hd (tl (tl r18.2.1)))] r18.2.2) fun r23 => some (.ret, r23.1, r23.2)))
 (bd (gc base [t8, t9] r1.2) fun r24 => some ((.exit 2), r24.1, r24.2))
theorem nY (O : aJ) (base : Nat) (t1 t8 t9 : D) (m : Mem) : bY O [1, 8, 9] [8, 9] h_ base [t1, t8, t9] m = jY O base t1 t8 t9 m := by kernel_rfl
def eY (O : aJ) (t0 t1 t2 : D) (m : Mem) : RV :=
 bd (au O fO [t0] m) fun r1 =>
 bd (iI [r1.1] r1.2) fun r2 =>
 bd (aG (ay r2.1 false) (bI [t1] r2.2) r2.2) fun r3 =>
 bd (aG (ay r2.1 false) (ak .lss [r3.1, .int .i64 (-3600)] r3.2) r3.2) fun r4 =>
 bd (bJ [r2.1, .bool true, r4.1] r4.2) fun r5 =>
 bd (aG (ay r5.1 false) (bI [t1] r5.2) r5.2) fun r6 =>
 bd (aG (ay r5.1 false) (ak .gtr [r6.1, .int .i64 3600] r6.2) r6.2) fun r7 =>
 bd (bJ [r5.1, .bool true, r7.1] r7.2) fun r8 =>
 aH r8.1
 (bd (gc (List.length m) [(.int .i64 0), (.bool false)] r8.2) fun r9 => some (aN r9))
 (bd (au O fG [t0] (r8.2 ++ [.free])) fun r11 =>
 bd (gG (List.length r8.2) 0 [.int .i64 0, .int .i64 0, .int .i64 0] [] r11.2) fun r12 =>
 bd (bD 3 [r12.1, r11.1] r12.2) fun r13 =>
 bd (aG (ay t2 true) (bI [t0] r13.2) r13.2) fun r14 =>
 bd (aG (ay t2 true) (au O qj [r14.1] r14.2) r14.2) fun r15 =>
 bd (bJ [t2, r15.1, .bool false] r15.2) fun r16 =>
 jn (O.loop [1, 8, 9] [1, 8, 9] fQ (List.length r16.2) [t1, r12.1, r16.1] r16.2) fun r17 =>
 dR (dL 0 r17.1)
 (jn (O.loop [1, 8, 9] [8, 9] h_ (List.length r17.2.2) [(hd r17.2.1), (hd (tl r17.2.1)), (hd (tl (tl r17.2.1)))] r17.2.2) fun r19 =>
 dR (dL 2 r19.1)
 (bd (aG (ay (hd (tl r19.2.1)) false) (aK 2 [(hd r19.2.1)] r19.2.2) r19.2.2) fun r21 =>
 bd (aG (ay (hd (tl r19.2.1)) false) (aB [r21.1] r21.2) r21.2) fun r22 =>
 bd (aG (ay (hd (tl r19.2.1)) false) (aK 0 [(hd r19.2.1)] r22.2) r22.2) fun r23 =>
 bd (aG (ay (hd (tl r19.2.1)) false) (aB [r23.1] r23.2) r23.2) fun r24 =>
 bd (aG (ay (hd (tl r19.2.1)) false) (aK 1 [(hd r19.2.1)] r24.2) r24.2) fun r25 =>
 bd (aG (ay (hd (tl r19.2.1)) false) (aB [r25.1] r25.2) r25.2) fun r26 =>
 bd (aG (ay (hd (tl r19.2.1)) false) (au O dJ [r24.1, r26.1] r26.2) r26.2) fun r27 =>
 bd (aG (ay (hd (tl r19.2.1)) false) (ak .gtr [r22.1, r27.1] r27.2) r27.2) fun r28 =>
 bd (bJ [(hd (tl r19.2.1)), .bool true, r28.1] r28.2) fun r29 =>
 jn (aH r29.1
 (bd (aK 0 [(hd r19.2.1)] r29.2) fun r30 =>
 bd (aB [r30.1] r30.2) fun r31 =>
 bd (aK 1 [(hd r19.2.1)] r31.2) fun r32 =>
 bd (aB [r32.1] r32.2) fun r33 =>
 bd (au O dJ [r31.1, r33.1] r33.2) fun r34 =>
 bd (aK 2 [(hd r19.2.1)] r34.2) fun r35 =>
 bd (bD 1 [r35.1, r34.1] r35.2) fun r36 =>
 some (.normal, [(hd r19.2.1)], r36.2))
 (some (.normal, [(hd r19.2.1)], r29.2))) fun r37 =>
 dR r37.1
 (bd (dh 3 [(hd r37.2.1)] r37.2.2) fun r39 =>
 bd (au O mM [r39.1] r39.2) fun r40 =>
 bd (aS 0 [r40.1] r40.2) fun r41 =>
 bd (aS 1 [r40.1] r41.2) fun r42 =>
 bd (gc (List.length m) [r41.1, r42.1] r42.2) fun r43 => some (aN r43))
 (fun i38 => none)
 (none))
 (fun i20 => none)
 (none))
 (fun i18 => none)
 (none))
theorem jF (O : aJ) (t0 t1 t2 : D) (m : Mem) : qH.step2 O [t0, t1, t2] m = eY O t0 t1 t2 m := by kernel_rfl
def BH (O : aJ) (base : Nat) (t1 t6 t7 t8 t9 t27 t28 t29 : D) (m : Mem) : Option (Ex × List D × Mem) :=
 bd (ak .lss [t29, t28] m) fun r1 =>
 aH r1.1
 (bd (bT 1 [t27, t29] r1.2) fun r2 =>
 bd (aB [r2.1] r2.2) fun r3 =>
 bd (jh [.int .i64 0, .int .i64 0] [(0, 1), (1, 1)] [t9, r3.1] (r3.2 ++ [.free])) fun r5 =>
 bd (DW 1 [.int .i64 0, .int .i64 0] [(0, 2)] [r5.1] r5.2) fun r6 =>
 bd (Jy (List.length r3.2) 0 2 [t8, r6.1] r6.2) fun r7 =>
 bd (ak .add [t29, .int .i64 1] r7.2) fun r8 =>
 bd (gc base [t1, t6, t7, r7.1, r3.1, t27, t28, r8.1] r8.2) fun r9 => O.loop [1, 6, 7, 8, 9, 27, 28, 29] [1, 6, 7, 8] xX base r9.1 r9.2)
 (bd (gc base [t1, t6, t7, t8] r1.2) fun r10 => some ((.exit 0), r10.1, r10.2))
theorem Ig (O : aJ) (base : Nat) (t1 t6 t7 t8 t9 t27 t28 t29 : D) (m : Mem) : bY O [1, 6, 7, 8, 9, 27, 28, 29] [1, 6, 7, 8] xX base [t1, t6, t7, t8, t9, t27, t28, t29] m = BH O base t1 t6 t7 t8 t9 t27 t28 t29 m := by kernel_rfl
def nM (O : aJ) (t0 : D) (m : Mem) : RV :=
 bd (je (List.length m) 0 [t0] (m ++ [.free])) fun r2 =>
 bd (dh 9 [r2.1] r2.2) fun r3 =>
 bd (au O gW [r3.1] r3.2) fun r4 =>
 bd (iH true true [r4.1, .aC] r4.2) fun r5 =>
 aH r5.1
 (bd (gc (List.length m) [(.cO), r4.1] r5.2) fun r6 => some (aN r6))
 (bd (dh 9 [r2.1] r5.2) fun r7 =>
 bd (O.aY xB [r7.1] r7.2) fun r8 =>
 bd (aS 0 [r8.1] r8.2) fun r9 =>
 bd (aS 1 [r8.1] r9.2) fun r10 =>
 bd (aS 2 [r8.1] r10.2) fun r11 =>
 bd (O.aY slices_Reverse_int [r9.1] r11.2) fun r12 =>
 bd (aK 0 [r2.1] r12.2) fun r13 =>
 bd (aB [r13.1] r13.2) fun r14 =>
 bd (cZ [r9.1] r14.2) fun r15 =>
 jn (O.loop [1, 6, 7, 8, 9, 27, 28, 29] [1, 6, 7, 8] xX (List.length r15.2) [r2.1, r10.1, r11.1, (.cO), r14.1, r9.1, r15.1, (.int .i64 0)] r15.2) fun r16 =>
 dR (dL 0 r16.1)
 (bd (aG (ay (hd (tl (tl r16.2.1))) true) (bI [(hd (tl r16.2.1))] r16.2.2) r16.2.2) fun r18 =>
 bd (aG (ay (hd (tl (tl r16.2.1))) true) (aK 0 [(hd r16.2.1)] r18.2) r18.2) fun r19 =>
 bd (aG (ay (hd (tl (tl r16.2.1))) true) (aB [r19.1] r19.2) r19.2) fun r20 =>
 bd (aG (ay (hd (tl (tl r16.2.1))) true) (ak .eql [r18.1, r20.1] r20.2) r20.2) fun r21 =>
 bd (bJ [(hd (tl (tl r16.2.1))), r21.1, .bool false] r21.2) fun r22 =>
 aH r22.1
 (bd (gc (List.length m) [(hd (tl (tl (tl r16.2.1)))), (.aC)] r22.2) fun r23 => some (aN r23))
 (jn (bd (aK 6 [(hd r16.2.1)] r22.2) fun r24 =>
 bd (aB [r24.1] r24.2) fun r25 =>
 bd (ak .eql [r25.1, .int .i64 0] r25.2) fun r26 =>
 jn (aH r26.1
 (bd (au O dM [.int .i64 5, .str [115, 116, 117, 98]] r26.2) fun r27 =>
 some (.ret, [(.cO), r27.1, (hd (tl (tl (tl r16.2.1))))], r27.2))
 (bd (aK 6 [(hd r16.2.1)] r26.2) fun r28 =>
 bd (aB [r28.1] r28.2) fun r29 =>
 bd (ak .eql [r29.1, .int .i64 2] r29.2) fun r30 =>
 bd (aG (ay r30.1 true) (bI [(hd (tl (tl (tl r16.2.1))))] r30.2) r30.2) fun r31 =>
 bd (aG (ay r30.1 true) (cZ [r31.1] r31.2) r31.2) fun r32 =>
 bd (aG (ay r30.1 true) (ak .gtr [r32.1, .int .i64 1] r32.2) r32.2) fun r33 =>
 bd (bJ [r30.1, r33.1, .bool false] r33.2) fun r34 =>
 jn (aH r34.1
 (bd (aK 0 [(hd r16.2.1)] r34.2) fun r35 =>
 bd (aB [r35.1] r35.2) fun r36 =>
 bd (bT 2 [(hd (tl (tl (tl r16.2.1)))), .int .i64 1] r36.2) fun r37 =>
 bd (aK 0 [r37.1] r37.2) fun r38 =>
 bd (bD 1 [r38.1, r36.1] r38.2) fun r39 =>
 bd (DX 2 true false [(hd (tl (tl (tl r16.2.1)))), .int .i64 1] r39.2) fun r40 =>
 some (.normal, [r40.1], r40.2))
 (some (.normal, [(hd (tl (tl (tl r16.2.1))))], r34.2))) fun r41 =>
 some (r41.1, [.undef, .undef, (hd r41.2.1)], r41.2.2))) fun r42 =>
 some ((dL 2 r42.1), [(hd r42.2.1), (hd (tl r42.2.1)), (hd (tl (tl r42.2.1)))], r42.2.2)) fun r43 =>
 dR r43.1
 (bd (gc (List.length m) [(hd (tl (tl r43.2.1))), (.aC)] r43.2.2) fun r45 => some (aN r45))
 (fun i44 => none)
 (bd (gc (List.length m) [(hd r43.2.1), (hd (tl r43.2.1))] r43.2.2) fun r46 => some (aN r46))))
 (fun i17 => none)
 (none))
theorem ZP (O : aJ) (t0 : D) (m : Mem) : Sl.step2 O [t0] m = nM O t0 m := by kernel_rfl
def BR (O : aJ) (t0 t1 : D) (m : Mem) : RV :=
 bd (au O mX [t0] m) fun r1 =>
 bd (ak .eql [r1.1, t1] r1.2) fun r2 =>
 bd (gc (List.length m) [r2.1] r2.2) fun r3 => some (aN r3)
theorem QC (O : aJ) (t0 t1 : D) (m : Mem) : wu.step2 O [t0, t1] m = BR O t0 t1 m := by kernel_rfl
def yc (O : aJ) (t0 t1 : D) (m : Mem) : RV :=
 bd (je (List.length m) 0 [t0] (m ++ [.free, .free])) fun r2 =>
 bd (je (List.length m) 1 [t1] r2.2) fun r3 =>
 bd (dh 9 [r2.1] r3.2) fun r4 =>
 bd (aK 1 [r3.1] r4.2) fun r5 =>
 bd (aB [r5.1] r5.2) fun r6 =>
 bd (au O ny [r4.1, r6.1] r6.2) fun r7 =>
 bd (aS 0 [r7.1] r7.2) fun r8 =>
 bd (aS 1 [r7.1] r8.2) fun r9 =>
 bd (iH false true [r9.1, .aC] r9.2) fun r10 =>
 bd (aG (ay r10.1 true) (bI [r8.1] r10.2) r10.2) fun r11 =>
 bd (aG (ay r10.1 true) (aK 0 [r3.1] r11.2) r11.2) fun r12 =>
 bd (aG (ay r10.1 true) (aB [r12.1] r12.2) r12.2) fun r13 =>
 bd (aG (ay r10.1 true) (ak .eql [r11.1, r13.1] r13.2) r13.2) fun r14 =>
 bd (bJ [r10.1, r14.1, .bool false] r14.2) fun r15 =>
 bd (gc (List.length m) [r15.1] r15.2) fun r16 => some (aN r16)
theorem YR (O : aJ) (t0 t1 : D) (m : Mem) : CS.step2 O [t0, t1] m = yc O t0 t1 m := by kernel_rfl
def Nj (O : aJ) (t0 t1 : D) (m : Mem) : RV :=
 bd (au O fF [t0, t1] m) fun r1 =>
 bd (jh [.int .i64 0, .int .i64 0, .int .i64 0] [(0, 1), (1, 1), (2, 1)] [t0, t1, r1.1] r1.2) fun r2 =>
 bd (au O pF [r2.1] r2.2) fun r3 =>
 bd (aS 0 [r3.1] r3.2) fun r4 =>
 bd (aS 1 [r3.1] r4.2) fun r5 =>
 bd (gc (List.length m) [r4.1, r5.1] r5.2) fun r6 => some (aN r6)
theorem aeE (O : aJ) (t0 t1 : D) (m : Mem) : MJ.step2 O [t0, t1] m = Nj O t0 t1 m := by kernel_rfl
def TV (O : aJ) (t0 : D) (m : Mem) : RV :=
 bd (au O eG [t0] (m ++ [.free])) fun r2 =>
 bd (aS 0 [r2.1] r2.2) fun r3 =>
 bd (aS 1 [r2.1] r3.2) fun r4 =>
 bd (gG (List.length m) 0 [.int .i64 0, .int .i64 0, .int .i64 0] [] r4.2) fun r5 =>
 bd (bD 3 [r5.1, r3.1] r5.2) fun r6 =>
 bd (iH false true [r4.1, .aC] r6.2) fun r7 =>
 bd (aG (ay r7.1 true) (aK 2 [r5.1] r7.2) r7.2) fun r8 =>
 bd (aG (ay r7.1 true) (aB [r8.1] r8.2) r8.2) fun r9 =>
 bd (aG (ay r7.1 true) (aK 0 [r5.1] r9.2) r9.2) fun r10 =>
 bd (aG (ay r7.1 true) (aB [r10.1] r10.2) r10.2) fun r11 =>
 bd (aG (ay r7.1 true) (aK 1 [r5.1] r11.2) r11.2) fun r12 =>
 bd (aG (ay r7.1 true) (aB [r12.1] r12.2) r12.2) fun r13 =>
 bd (aG (ay r7.1 true) (au O fF [r11.1, r13.1] r13.2) r13.2) fun r14 =>
 bd (aG (ay r7.1 true) (ak .eql [r9.1, r14.1] r14.2) r14.2) fun r15 =>
 bd (bJ [r7.1, r15.1, .bool false] r15.2) fun r16 =>
 bd (gc (List.length m) [r16.1] r16.2) fun r17 => some (aN r17)
theorem acD (O : aJ) (t0 : D) (m : Mem) : IZ.step2 O [t0] m = TV O t0 m := by kernel_rfl
def LX (O : aJ) (t0 t1 : D) (m : Mem) : RV :=
 bd (au O eG [t0] (m ++ [.free])) fun r2 =>
 bd (aS 0 [r2.1] r2.2) fun r3 =>
 bd (aS 1 [r2.1] r3.2) fun r4 =>
 bd (gG (List.length m) 0 [.int .i64 0, .int .i64 0, .int .i64 0] [] r4.2) fun r5 =>
 bd (bD 3 [r5.1, r3.1] r5.2) fun r6 =>
 bd (au O eG [t1] (r6.2 ++ [.free])) fun r8 =>
 bd (aS 0 [r8.1] r8.2) fun r9 =>
 bd (aS 1 [r8.1] r9.2) fun r10 =>
 bd (gG (List.length r6.2) 0 [.int .i64 0, .int .i64 0, .int .i64 0] [] r10.2) fun r11 =>
 bd (bD 3 [r11.1, r9.1] r11.2) fun r12 =>
 bd (iH true true [r4.1, .aC] r12.2) fun r13 =>
 bd (aG (ay r13.1 false) (bI [r10.1] r13.2) r13.2) fun r14 =>
 bd (aG (ay r13.1 false) (iH true true [r14.1, .aC] r14.2) r14.2) fun r15 =>
 bd (bJ [r13.1, .bool true, r15.1] r15.2) fun r16 =>
 aH r16.1
 (bd (gc (List.length m) [(.int .i64 0)] r16.2) fun r17 => some (aN r17))
 (bd (aK 0 [r11.1] r16.2) fun r18 =>
 bd (aB [r18.1] r18.2) fun r19 =>
 bd (aK 0 [r5.1] r19.2) fun r20 =>
 bd (aB [r20.1] r20.2) fun r21 =>
 bd (ak .sub [r19.1, r21.1] r21.2) fun r22 =>
 bd (ak .mul [r22.1, .int .i64 12] r22.2) fun r23 =>
 bd (aK 1 [r11.1] r23.2) fun r24 =>
 bd (aB [r24.1] r24.2) fun r25 =>
 bd (ak .add [r23.1, r25.1] r25.2) fun r26 =>
 bd (aK 1 [r5.1] r26.2) fun r27 =>
 bd (aB [r27.1] r27.2) fun r28 =>
 bd (ak .sub [r26.1, r28.1] r28.2) fun r29 =>
 bd (gc (List.length m) [r29.1] r29.2) fun r30 => some (aN r30))
theorem Xh (O : aJ) (t0 t1 : D) (m : Mem) : AQ.step2 O [t0, t1] m = LX O t0 t1 m := by kernel_rfl
def ig (O : aJ) (base : Nat) (t1 t4 t6 t7 t21 t22 t23 : D) (m : Mem) : Option (Ex × List D × Mem) :=
 bd (ak .lss [t23, t22] m) fun r1 =>
 aH r1.1
 (jn (bd (bT 2 [t21, t23] (r1.2 ++ [.free])) fun r3 =>
 bd (dh 2 [r3.1] r3.2) fun r4 =>
 bd (gG (List.length r1.2) 0 [.int .i64 0, .int .i64 0] [] r4.2) fun r5 =>
 bd (bD 2 [r5.1, r4.1] r5.2) fun r6 =>
 bd (ak .eql [t23, .int .i64 0] r6.2) fun r7 =>
 jn (aH r7.1
 (bd (dh 9 [t1] r7.2) fun r8 =>
 bd (dh 2 [r5.1] r8.2) fun r9 =>
 bd (au O uH [r8.1, r9.1] r9.2) fun r10 =>
 bd (aS 0 [r10.1] r10.2) fun r11 =>
 bd (aS 1 [r10.1] r11.2) fun r12 =>
 bd (iH true true [r12.1, .aC] r12.2) fun r13 =>
 aH r13.1
 (some (.ret, [t1, (.cO), r12.1, t4, t6, t7, t23, r5.1, r11.1, t21, t22, t23], r13.2))
 (some (.normal, [t1, .undef, .undef, t4, t6, t7, t23, r5.1, r11.1, t21, t22, t23], r13.2)))
 (some (.normal, [t1, .undef, .undef, t4, t6, t7, t23, r5.1, t6, t21, t22, t23], r7.2))) fun r14 =>
 dR r14.1
 (bd (cZ [(hd (tl (tl (tl r14.2.1))))] r14.2.2) fun r16 =>
 bd (ak .sub [r16.1, .int .i64 1] r16.2) fun r17 =>
 bd (ak .eql [(hd (tl (tl (tl (tl (tl (tl r14.2.1))))))), r17.1] r17.2) fun r18 =>
 jn (aH r18.1
 (bd (dh 9 [(hd r14.2.1)] r18.2) fun r19 =>
 bd (au O oV [r19.1] r19.2) fun r20 =>
 bd (au O iZ [(hd (tl (tl (tl (tl (tl (tl (tl (tl r14.2.1))))))))), r20.1] r20.2) fun r21 =>
 some (.normal, [(hd r14.2.1), (hd (tl (tl (tl r14.2.1)))), (hd (tl (tl (tl (tl r14.2.1))))), (hd (tl (tl (tl (tl (tl r14.2.1)))))), (hd (tl (tl (tl (tl (tl (tl (tl r14.2.1)))))))), r21.1, (hd (tl (tl (tl (tl (tl (tl (tl (tl (tl r14.2.1)))))))))), (hd (tl (tl (tl (tl (tl (tl (tl (tl (tl (tl r14.2.1))))))))))), (hd (tl (tl (tl (tl (tl (tl (tl (tl (tl (tl (tl r14.2.1))))))))))))], r21.2))
 (some (.normal, [(hd r14.2.1), (hd (tl (tl (tl r14.2.1)))), (hd (tl (tl (tl (tl r14.2.1))))), (hd (tl (tl (tl (tl (tl r14.2.1)))))), (hd (tl (tl (tl (tl (tl (tl (tl r14.2.1)))))))), (hd (tl (tl (tl (tl (tl (tl (tl (tl r14.2.1))))))))), (hd (tl (tl (tl (tl (tl (tl (tl (tl (tl r14.2.1)))))))))), (hd (tl (tl (tl (tl (tl (tl (tl (tl (tl (tl r14.2.1))))))))))), (hd (tl (tl (tl (tl (tl (tl (tl (tl (tl (tl (tl r14.2.1))))))))))))], r18.2))) fun r22 =>
 dR r22.1
 (bd (aK 1 [(hd (tl (tl (tl (tl r22.2.1)))))] (r22.2.2 ++ [.free])) fun r25 =>
 bd (aB [r25.1] r25.2) fun r26 =>
 bd (au O fP [(hd (tl (tl (tl (tl (tl r22.2.1))))))] r26.2) fun r27 =>
 bd (jh [.int .i64 0, .str []] [(0, 1), (1, 1)] [r26.1, r27.1] r27.2) fun r28 =>
 bd (DW 1 [.int .i64 0, .str []] [(0, 2)] [r28.1] r28.2) fun r29 =>
 bd (Jy (List.length r22.2.2) 0 2 [(hd (tl (tl (tl r22.2.1)))), r29.1] r29.2) fun r30 =>
 some (.normal, [(hd r22.2.1), .undef, .undef, (hd (tl r22.2.1)), (hd (tl (tl r22.2.1))), r30.1, (hd (tl (tl (tl (tl (tl (tl r22.2.1))))))), (hd (tl (tl (tl (tl (tl (tl (tl r22.2.1)))))))), (hd (tl (tl (tl (tl (tl (tl (tl (tl r22.2.1)))))))))], r30.2))
 (fun i23 => some ((dL 1 (.exit i23)), [(hd r22.2.1), .undef, .undef, (hd (tl r22.2.1)), (hd (tl (tl r22.2.1))), (hd (tl (tl (tl r22.2.1)))), (hd (tl (tl (tl (tl (tl (tl r22.2.1))))))), (hd (tl (tl (tl (tl (tl (tl (tl r22.2.1)))))))), (hd (tl (tl (tl (tl (tl (tl (tl (tl r22.2.1)))))))))], r22.2.2))
 (some (.ret, [(hd r22.2.1), .undef, .undef, (hd (tl r22.2.1)), (hd (tl (tl r22.2.1))), (hd (tl (tl (tl r22.2.1)))), (hd (tl (tl (tl (tl (tl (tl r22.2.1))))))), (hd (tl (tl (tl (tl (tl (tl (tl r22.2.1)))))))), (hd (tl (tl (tl (tl (tl (tl (tl (tl r22.2.1)))))))))], r22.2.2)))
 (fun i15 => some ((dL 1 (.exit i15)), [(hd r14.2.1), (hd (tl r14.2.1)), (hd (tl (tl r14.2.1))), (hd (tl (tl (tl r14.2.1)))), (hd (tl (tl (tl (tl r14.2.1))))), (hd (tl (tl (tl (tl (tl r14.2.1)))))), (hd (tl (tl (tl (tl (tl (tl (tl (tl (tl r14.2.1)))))))))), (hd (tl (tl (tl (tl (tl (tl (tl (tl (tl (tl r14.2.1))))))))))), (hd (tl (tl (tl (tl (tl (tl (tl (tl (tl (tl (tl r14.2.1))))))))))))], r14.2.2))
 (some (.ret, [(hd r14.2.1), (hd (tl r14.2.1)), (hd (tl (tl r14.2.1))), (hd (tl (tl (tl r14.2.1)))), (hd (tl (tl (tl (tl r14.2.1))))), (hd (tl (tl (tl (tl (tl r14.2.1)))))), (hd (tl (tl (tl (tl (tl (tl (tl (tl (tl r14.2.1)))))))))), (hd (tl (tl (tl (tl (tl (tl (tl (tl (tl (tl r14.2.1))))))))))), (hd (tl (tl (tl (tl (tl (tl (tl (tl (tl (tl (tl r14.2.1))))))))))))], r14.2.2))) fun r31 =>
 dR r31.1
 (bd (ak .add [(hd (tl (tl (tl (tl (tl (tl (tl (tl r31.2.1))))))))), .int .i64 1] r31.2.2) fun r33 =>
 bd (gc base [(hd r31.2.1), (hd (tl (tl (tl r31.2.1)))), (hd (tl (tl (tl (tl r31.2.1))))), (hd (tl (tl (tl (tl (tl r31.2.1)))))), (hd (tl (tl (tl (tl (tl (tl r31.2.1))))))), (hd (tl (tl (tl (tl (tl (tl (tl r31.2.1)))))))), r33.1] r33.2) fun r34 => O.loop [1, 4, 6, 7, 21, 22, 23] [2, 3, 7] oP base r34.1 r34.2)
 (fun i32 => bd (gc base [(hd (tl r31.2.1)), (hd (tl (tl r31.2.1))), (hd (tl (tl (tl (tl (tl r31.2.1))))))] r31.2.2) fun r35 => some ((.exit i32), r35.1, r35.2))
 (bd (gc base [(hd (tl r31.2.1)), (hd (tl (tl r31.2.1))), (hd (tl (tl (tl (tl (tl r31.2.1))))))] r31.2.2) fun r36 => some (.ret, r36.1, r36.2)))
 (bd (gc base [.undef, .undef, t7] r1.2) fun r37 => some ((.exit 0), r37.1, r37.2))
theorem iL (O : aJ) (base : Nat) (t1 t4 t6 t7 t21 t22 t23 : D) (m : Mem) : bY O [1, 4, 6, 7, 21, 22, 23] [2, 3, 7] oP base [t1, t4, t6, t7, t21, t22, t23] m = ig O base t1 t4 t6 t7 t21 t22 t23 m := by kernel_rfl
def xE (O : aJ) (t0 : D) (m : Mem) : RV :=
 bd (je (List.length m) 0 [t0] (m ++ [.free])) fun r2 =>
 bd (dh 9 [r2.1] r2.2) fun r3 =>
 bd (au O fV [r3.1] r3.2) fun r4 =>
 bd (aS 0 [r4.1] r4.2) fun r5 =>
 bd (aS 1 [r4.1] r5.2) fun r6 =>
 bd (iH true true [r6.1, .aC] r6.2) fun r7 =>
 aH r7.1
 (bd (gc (List.length m) [(.cO), r6.1] r7.2) fun r8 => some (aN r8))
 (bd (dh 9 [r2.1] r7.2) fun r9 =>
 bd (au O pW [r9.1] r9.2) fun r10 =>
 bd (cZ [r5.1] r10.2) fun r11 =>
 jn (O.loop [1, 4, 6, 7, 21, 22, 23] [2, 3, 7] oP (List.length r11.2) [r2.1, r5.1, r10.1, (.cO), r5.1, r11.1, (.int .i64 0)] r11.2) fun r12 =>
 dR (dL 0 r12.1)
 (bd (gc (List.length m) [(hd (tl (tl r12.2.1))), (.aC)] r12.2.2) fun r14 => some (aN r14))
 (fun i13 => none)
 (bd (gc (List.length m) [(hd r12.2.1), (hd (tl r12.2.1))] r12.2.2) fun r15 => some (aN r15)))
theorem Ac (O : aJ) (t0 : D) (m : Mem) : RY.step2 O [t0] m = xE O t0 m := by kernel_rfl
def bG (O : aJ) (t0 : D) (m : Mem) : RV :=
 bd (je (List.length m) 0 [t0] (m ++ [.free])) fun r2 =>
 bd (aK 0 [r2.1] r2.2) fun r3 =>
 bd (aB [r3.1] r3.2) fun r4 =>
 bd (au O fO [r4.1] r4.2) fun r5 =>
 bd (iI [r5.1] r5.2) fun r6 =>
 aH r6.1
 (bd (gc (List.length m) [(.int .i64 4), (.str [105, 115, 115, 117, 101])] r6.2) fun r7 => some (aN r7))
 (bd (aK 1 [r2.1] r6.2) fun r8 =>
 bd (aB [r8.1] r8.2) fun r9 =>
 bd (au O fO [r9.1] r9.2) fun r10 =>
 bd (iI [r10.1] r10.2) fun r11 =>
 aH r11.1
 (bd (gc (List.length m) [(.int .i64 4), (.str [109, 97, 116, 117, 114, 101])] r11.2) fun r12 => some (aN r12))
 (bd (aK 0 [r2.1] r11.2) fun r13 =>
 bd (aB [r13.1] r13.2) fun r14 =>
 bd (au O dA [r14.1, .int .i64 360, .bool false] r14.2) fun r15 =>
 bd (aS 0 [r15.1] r15.2) fun r16 =>
 bd (aS 1 [r15.1] r16.2) fun r17 =>
 bd (aK 1 [r2.1] r17.2) fun r18 =>
 bd (aB [r18.1] r18.2) fun r19 =>
 bd (aK 0 [r2.1] r19.2) fun r20 =>
 bd (aB [r20.1] r20.2) fun r21 =>
 bd (ak .leq [r19.1, r21.1] r21.2) fun r22 =>
 bd (aG (ay r22.1 false) (bI [r17.1] r22.2) r22.2) fun r23 =>
 bd (aG (ay r22.1 false) (bI [r23.1] r23.2) r23.2) fun r24 =>
 bd (aG (ay r24.1 true) (aK 1 [r2.1] r24.2) r24.2) fun r25 =>
 bd (aG (ay r24.1 true) (aB [r25.1] r25.2) r25.2) fun r26 =>
 bd (aG (ay r24.1 true) (bI [r16.1] r26.2) r26.2) fun r27 =>
 bd (aG (ay r24.1 true) (ak .gtr [r26.1, r27.1] r27.2) r27.2) fun r28 =>
 bd (aG (ay r22.1 false) (bJ [r24.1, r28.1, .bool false] r28.2) r28.2) fun r29 =>
 bd (bJ [r22.1, .bool true, r29.1] r29.2) fun r30 =>
 aH r30.1
 (bd (gc (List.length m) [(.int .i64 5), (.str [109, 97, 116, 117, 114, 101])] r30.2) fun r31 => some (aN r31))
 (bd (dh 9 [r2.1] r30.2) fun r32 =>
 bd (au O jf [r32.1] r32.2) fun r33 =>
 bd (ak .eql [r33.1, .int .i64 0] r33.2) fun r34 =>
 aH r34.1
 (bd (gc (List.length m) [(.int .i64 5), (.str [102, 114, 101, 113])] r34.2) fun r35 => some (aN r35))
 (bd (aK 3 [r2.1] (r34.2 ++ [.free])) fun r37 =>
 bd (aB [r37.1] r37.2) fun r38 =>
 bd (au O fA [r38.1, .int .i64 0, .int .i64 30, .bool true] r38.2) fun r39 =>
 bd (aS 0 [r39.1] r39.2) fun r40 =>
 bd (aS 1 [r39.1] r40.2) fun r41 =>
 bd (gG (List.length r34.2) 0 [.bool false, .sl 0 [], .sl 0 []] [] r41.2) fun r42 =>
 bd (bD 3 [r42.1, r40.1] r42.2) fun r43 =>
 bd (ak .neq [r41.1, .int .i64 0] r43.2) fun r44 =>
 aH r44.1
 (bd (gc (List.length m) [r41.1, (.str [99, 111, 117, 112, 111, 110])] r44.2) fun r45 => some (aN r45))
 (bd (aK 4 [r2.1] (r44.2 ++ [.free])) fun r47 =>
 bd (aB [r47.1] r47.2) fun r48 =>
 bd (au O fA [r48.1, .int .i64 0, .int .i64 200, .bool false] r48.2) fun r49 =>
 bd (aS 0 [r49.1] r49.2) fun r50 =>
 bd (aS 1 [r49.1] r50.2) fun r51 =>
 bd (gG (List.length r44.2) 0 [.bool false, .sl 0 [], .sl 0 []] [] r51.2) fun r52 =>
 bd (bD 3 [r52.1, r50.1] r52.2) fun r53 =>
 bd (ak .neq [r51.1, .int .i64 0] r53.2) fun r54 =>
 aH r54.1
 (bd (gc (List.length m) [r51.1, (.str [114, 101, 100, 101, 101, 109])] r54.2) fun r55 => some (aN r55))
 (bd (aK 5 [r2.1] r54.2) fun r56 =>
 bd (aB [r56.1] r56.2) fun r57 =>
 bd (ak .lss [r57.1, .int .i64 1] r57.2) fun r58 =>
 bd (aG (ay r58.1 false) (aK 5 [r2.1] r58.2) r58.2) fun r59 =>
 bd (aG (ay r58.1 false) (aB [r59.1] r59.2) r59.2) fun r60 =>
 bd (aG (ay r58.1 false) (ak .gtr [r60.1, .int .i64 4] r60.2) r60.2) fun r61 =>
 bd (bJ [r58.1, .bool true, r61.1] r61.2) fun r62 =>
 aH r62.1
 (bd (gc (List.length m) [(.int .i64 5), (.str [99, 111, 117, 110, 116])] r62.2) fun r63 => some (aN r63))
 (bd (aK 6 [r2.1] r62.2) fun r64 =>
 bd (aB [r64.1] r64.2) fun r65 =>
 bd (ak .lss [r65.1, .int .i64 0] r65.2) fun r66 =>
 bd (aG (ay r66.1 false) (aK 6 [r2.1] r66.2) r66.2) fun r67 =>
 bd (aG (ay r66.1 false) (aB [r67.1] r67.2) r67.2) fun r68 =>
 bd (aG (ay r66.1 false) (ak .gtr [r68.1, .int .i64 2] r68.2) r68.2) fun r69 =>
 bd (bJ [r66.1, .bool true, r69.1] r69.2) fun r70 =>
 aH r70.1
 (bd (gc (List.length m) [(.int .i64 5), (.str [115, 116, 117, 98])] r70.2) fun r71 => some (aN r71))
 (bd (aK 8 [r2.1] r70.2) fun r72 =>
 bd (aB [r72.1] r72.2) fun r73 =>
 bd (ak .lss [r73.1, .int .i64 0] r73.2) fun r74 =>
 bd (aG (ay r74.1 false) (aK 8 [r2.1] r74.2) r74.2) fun r75 =>
 bd (aG (ay r74.1 false) (aB [r75.1] r75.2) r75.2) fun r76 =>
 bd (aG (ay r74.1 false) (ak .gtr [r76.1, .int .i64 30] r76.2) r76.2) fun r77 =>
 bd (bJ [r74.1, .bool true, r77.1] r77.2) fun r78 =>
 aH r78.1
 (bd (gc (List.length m) [(.int .i64 5), (.str [101, 120])] r78.2) fun r79 => some (aN r79))
 (bd (aK 0 [r2.1] r78.2) fun r80 =>
 bd (aB [r80.1] r80.2) fun r81 =>
 bd (aK 1 [r2.1] r81.2) fun r82 =>
 bd (aB [r82.1] r82.2) fun r83 =>
 bd (au O jQ [r81.1, r83.1] r83.2) fun r84 =>
 bd (dh 9 [r2.1] r84.2) fun r85 =>
 bd (au O jf [r85.1] r85.2) fun r86 =>
 bd (ak .quo [r84.1, r86.1] r86.2) fun r87 =>
 bd (ak .add [r87.1, .int .i64 2] r87.2) fun r88 =>
 bd (ak .gtr [r88.1, .int .i64 200] r88.2) fun r89 =>
 aH r89.1
 (bd (gc (List.length m) [(.int .i64 5), (.str [102, 108, 111, 119, 115])] r89.2) fun r90 => some (aN r90))
 (bd (gc (List.length m) [(.int .i64 0), (.str [])] r89.2) fun r91 => some (aN r91)))))))))))
theorem Ox (O : aJ) (t0 : D) (m : Mem) : uD.step2 O [t0] m = bG O t0 m := by kernel_rfl
def jv (O : aJ) (t0 : D) (m : Mem) : RV :=
 bd (je (List.length m) 0 [t0] (m ++ [.free])) fun r2 =>
 bd (dh 9 [r2.1] r2.2) fun r3 =>
 bd (au O EH [r3.1] r3.2) fun r4 =>
 bd (iH true true [r4.1, .aC] r4.2) fun r5 =>
 aH r5.1
 (bd (gc (List.length m) [r4.1] r5.2) fun r6 => some (aN r6))
 (bd (dh 9 [r2.1] r5.2) fun r7 =>
 bd (au O jy [r7.1] r7.2) fun r8 =>
 bd (ak .eql [r8.1, .int .i64 0] r8.2) fun r9 =>
 aH r9.1
 (bd (au O dM [.int .i64 5, .str [102, 114, 101, 113]] r9.2) fun r10 =>
 bd (gc (List.length m) [r10.1] r10.2) fun r11 => some (aN r11))
 (bd (dh 9 [r2.1] r9.2) fun r12 =>
 bd (au O EI [r12.1] r12.2) fun r13 =>
 bd (iH true true [r13.1, .aC] r13.2) fun r14 =>
 aH r14.1
 (bd (gc (List.length m) [r13.1] r14.2) fun r15 => some (aN r15))
 (bd (aK 5 [r2.1] r14.2) fun r16 =>
 bd (aB [r16.1] r16.2) fun r17 =>
 bd (au O rC [r17.1] r17.2) fun r18 =>
 bd (iI [r18.1] r18.2) fun r19 =>
 aH r19.1
 (bd (au O dM [.int .i64 5, .str [99, 111, 117, 110, 116]] r19.2) fun r20 =>
 bd (gc (List.length m) [r20.1] r20.2) fun r21 => some (aN r21))
 (bd (aK 6 [r2.1] r19.2) fun r22 =>
 bd (aB [r22.1] r22.2) fun r23 =>
 bd (ak .lss [r23.1, .int .i64 0] r23.2) fun r24 =>
 bd (aG (ay r24.1 false) (aK 6 [r2.1] r24.2) r24.2) fun r25 =>
 bd (aG (ay r24.1 false) (aB [r25.1] r25.2) r25.2) fun r26 =>
 bd (aG (ay r24.1 false) (ak .gtr [r26.1, .int .i64 2] r26.2) r26.2) fun r27 =>
 bd (bJ [r24.1, .bool true, r27.1] r27.2) fun r28 =>
 aH r28.1
 (bd (au O dM [.int .i64 5, .str [115, 116, 117, 98]] r28.2) fun r29 =>
 bd (gc (List.length m) [r29.1] r29.2) fun r30 => some (aN r30))
 (bd (aK 8 [r2.1] r28.2) fun r31 =>
 bd (aB [r31.1] r31.2) fun r32 =>
 bd (ak .lss [r32.1, .int .i64 0] r32.2) fun r33 =>
 bd (aG (ay r33.1 false) (aK 8 [r2.1] r33.2) r33.2) fun r34 =>
 bd (aG (ay r33.1 false) (aB [r34.1] r34.2) r34.2) fun r35 =>
 bd (aG (ay r33.1 false) (ak .gtr [r35.1, .int .i64 30] r35.2) r35.2) fun r36 =>
 bd (bJ [r33.1, .bool true, r36.1] r36.2) fun r37 =>
 aH r37.1
 (bd (au O dM [.int .i64 5, .str [101, 120]] r37.2) fun r38 =>
 bd (gc (List.length m) [r38.1] r38.2) fun r39 => some (aN r39))
 (bd (aK 0 [r2.1] r37.2) fun r40 =>
 bd (aB [r40.1] r40.2) fun r41 =>
 bd (aK 1 [r2.1] r41.2) fun r42 =>
 bd (aB [r42.1] r42.2) fun r43 =>
 bd (au O iO [r41.1, r43.1] r43.2) fun r44 =>
 bd (dh 9 [r2.1] r44.2) fun r45 =>
 bd (au O jy [r45.1] r45.2) fun r46 =>
 bd (ak .quo [r44.1, r46.1] r46.2) fun r47 =>
 bd (ak .add [r47.1, .int .i64 2] r47.2) fun r48 =>
 bd (ak .gtr [r48.1, .int .i64 200] r48.2) fun r49 =>
 aH r49.1
 (bd (au O dM [.int .i64 5, .str [102, 108, 111, 119, 115]] r49.2) fun r50 =>
 bd (gc (List.length m) [r50.1] r50.2) fun r51 => some (aN r51))
 (bd (gc (List.length m) [(.aC)] r49.2) fun r52 => some (aN r52))))))))
theorem acy (O : aJ) (t0 : D) (m : Mem) : IU.step2 O [t0] m = jv O t0 m := by kernel_rfl
def Ec (O : aJ) (t0 : D) (m : Mem) : RV :=
 bd (au O bM [t0] m) fun r1 =>
 bd (au O gZ [r1.1] r1.2) fun r2 =>
 bd (kM .neq [r2.1, .str [49]] r2.2) fun r3 =>
 aH r3.1
 (bd (au O b_ [t0] r3.2) fun r4 =>
 bd (au O gZ [r4.1] r4.2) fun r5 =>
 bd (kM .add [r5.1, .str [47]] r5.2) fun r6 =>
 bd (kM .add [r6.1, r2.1] r6.2) fun r7 =>
 bd (gc (List.length m) [r7.1] r7.2) fun r8 => some (aN r8))
 (bd (au O b_ [t0] r3.2) fun r9 =>
 bd (au O gZ [r9.1] r9.2) fun r10 =>
 bd (gc (List.length m) [r10.1] r10.2) fun r11 => some (aN r11))
theorem YU (O : aJ) (t0 : D) (m : Mem) : CW.step2 O [t0] m = Ec O t0 m := by kernel_rfl
def Oo (O : aJ) (t0 : D) (m : Mem) : RV :=
 bd (au O b_ [t0] m) fun r1 =>
 bd (au O bZ [r1.1] r1.2) fun r2 =>
 bd (gc (List.length m) [r2.1] r2.2) fun r3 => some (aN r3)
theorem YT (O : aJ) (t0 : D) (m : Mem) : CV.step2 O [t0] m = Oo O t0 m := by kernel_rfl
def qV (O : aJ) (t0 : D) (m : Mem) : RV :=
 bd (je (List.length m) 0 [t0] (m ++ [.free])) fun r2 =>
 bd (aK 2 [r2.1] r2.2) fun r3 =>
 bd (aB [r3.1] r3.2) fun r4 =>
 jn (bd (ak .eql [r4.1, .int .i64 1] r4.2) fun r5 =>
 jn (aH r5.1
 (some (.normal, [r2.1, r5.1], r5.2))
 (bd (ak .eql [r4.1, .int .i64 2] r5.2) fun r6 =>
 jn (aH r6.1
 (some (.normal, [r2.1, r6.1], r6.2))
 (bd (ak .eql [r4.1, .int .i64 4] r6.2) fun r7 =>
 jn (aH r7.1
 (some (.normal, [r2.1, r7.1], r7.2))
 (bd (ak .eql [r4.1, .int .i64 12] r7.2) fun r8 =>
 some (.normal, [r2.1, r8.1], r8.2))) fun r9 =>
 some (r9.1, [(hd r9.2.1), (hd (tl r9.2.1))], r9.2.2))) fun r10 =>
 some (r10.1, [(hd r10.2.1), (hd (tl r10.2.1))], r10.2.2))) fun r11 =>
 dR r11.1
 (aH (hd (tl r11.2.1))
 (bd (aK 2 [(hd r11.2.1)] r11.2.2) fun r13 =>
 bd (aB [r13.1] r13.2) fun r14 =>
 bd (ak .quo [.int .i64 12, r14.1] r14.2) fun r15 =>
 some (.ret, [r15.1], r15.2))
 (some (.normal, [.undef], r11.2.2)))
 (fun i12 => some ((dL 0 (.exit i12)), [.undef], r11.2.2))
 (some (.ret, [.undef], r11.2.2))) fun r16 =>
 dR r16.1
 (bd (gc (List.length m) [(.int .i64 0)] r16.2.2) fun r18 => some (aN r18))
 (fun i17 => none)
 (bd (gc (List.length m) [(hd r16.2.1)] r16.2.2) fun r19 => some (aN r19))
theorem aaS (O : aJ) (t0 : D) (m : Mem) : Fj.step2 O [t0] m = qV O t0 m := by kernel_rfl
def Gm (O : aJ) (t0 : D) (m : Mem) : RV :=
 bd (je (List.length m) 0 [t0] (m ++ [.free])) fun r2 =>
 bd (dh 9 [r2.1] r2.2) fun r3 =>
 bd (au O gW [r3.1] r3.2) fun r4 =>
 bd (iH true true [r4.1, .aC] r4.2) fun r5 =>
 aH r5.1
 (bd (au O mF [.int .i64 0] r5.2) fun r6 =>
 bd (gc (List.length m) [r6.1] r6.2) fun r7 => some (aN r7))
 (bd (aK 3 [r2.1] r5.2) fun r8 =>
 bd (aB [r8.1] r8.2) fun r9 =>
 bd (au O lg [r9.1] r9.2) fun r10 =>
 bd (aS 0 [r10.1] r10.2) fun r11 =>
 bd (aS 1 [r10.1] r11.2) fun r12 =>
 bd (aS 2 [r10.1] r12.2) fun r13 =>
 bd (gc (List.length m) [r11.1] r13.2) fun r14 => some (aN r14))
theorem aaR (O : aJ) (t0 : D) (m : Mem) : Fh.step2 O [t0] m = Gm O t0 m := by kernel_rfl
def z_ (O : aJ) (t0 : D) (m : Mem) : RV :=
 bd (ak .geq [t0, .int .i64 0] m) fun r1 =>
 bd (aG (ay r1.1 true) (bI [t0] r1.2) r1.2) fun r2 =>
 bd (aG (ay r1.1 true) (ak .leq [r2.1, .int .i64 109572] r2.2) r2.2) fun r3 =>
 bd (bJ [r1.1, r3.1, .bool false] r3.2) fun r4 =>
 bd (gc (List.length m) [r4.1] r4.2) fun r5 => some (aN r5)
theorem VH (O : aJ) (t0 : D) (m : Mem) : zI.step2 O [t0] m = z_ O t0 m := by kernel_rfl
def rY (O : aJ) (base : Nat) (t0 t2 t3 : D) (m : Mem) : Option (Ex × List D × Mem) :=
 bd (aK 0 [t3] m) fun r1 =>
 bd (aB [r1.1] r1.2) fun r2 =>
 bd (au O iK [r2.1] r2.2) fun r3 =>
 bd (ak .geq [t0, r3.1] r3.2) fun r4 =>
 aH r4.1
 (bd (aK 0 [t3] r4.2) fun r5 =>
 bd (aB [r5.1] r5.2) fun r6 =>
 bd (au O iK [r6.1] r6.2) fun r7 =>
 bd (ak .sub [t0, r7.1] r7.2) fun r8 =>
 bd (aK 0 [t3] r8.2) fun r9 =>
 bd (aB [r9.1] r9.2) fun r10 =>
 bd (ak .add [r10.1, .int .i64 1] r10.2) fun r11 =>
 bd (aK 0 [t3] r11.2) fun r12 =>
 bd (bD 1 [r12.1, r11.1] r12.2) fun r13 =>
 bd (gc base [r8.1, t2, t3] r13.2) fun r14 => O.loop [0, 2, 3] [0, 2, 3] lH base r14.1 r14.2)
 (bd (gc base [t0, t2, t3] r4.2) fun r15 => some ((.exit 0), r15.1, r15.2))
theorem yJ (O : aJ) (base : Nat) (t0 t2 t3 : D) (m : Mem) : bY O [0, 2, 3] [0, 2, 3] lH base [t0, t2, t3] m = rY O base t0 t2 t3 m := by kernel_rfl
def rZ (O : aJ) (base : Nat) (t0 t2 t3 : D) (m : Mem) : Option (Ex × List D × Mem) :=
 bd (aK 0 [t3] m) fun r1 =>
 bd (aB [r1.1] r1.2) fun r2 =>
 bd (aK 1 [t3] r2.2) fun r3 =>
 bd (aB [r3.1] r3.2) fun r4 =>
 bd (au O dJ [r2.1, r4.1] r4.2) fun r5 =>
 bd (ak .geq [t0, r5.1] r5.2) fun r6 =>
 aH r6.1
 (bd (aK 0 [t3] r6.2) fun r7 =>
 bd (aB [r7.1] r7.2) fun r8 =>
 bd (aK 1 [t3] r8.2) fun r9 =>
 bd (aB [r9.1] r9.2) fun r10 =>
 bd (au O dJ [r8.1, r10.1] r10.2) fun r11 =>
 bd (ak .sub [t0, r11.1] r11.2) fun r12 =>
 bd (aK 1 [t3] r12.2) fun r13 =>
 bd (aB [r13.1] r13.2) fun r14 =>
 bd (ak .add [r14.1, .int .i64 1] r14.2) fun r15 =>
 bd (aK 1 [t3] r15.2) fun r16 =>
 bd (bD 1 [r16.1, r15.1] r16.2) fun r17 =>
 bd (gc base [r12.1, t2, t3] r17.2) fun r18 => O.loop [0, 2, 3] [0, 2, 3] lI base r18.1 r18.2)
 (bd (gc base [t0, t2, t3] r6.2) fun r19 => some ((.exit 2), r19.1, r19.2))
theorem yK (O : aJ) (base : Nat) (t0 t2 t3 : D) (m : Mem) : bY O [0, 2, 3] [0, 2, 3] lI base [t0, t2, t3] m = rZ O base t0 t2 t3 m := by kernel_rfl
def BU (O : aJ) (t0 : D) (m : Mem) : RV :=
 bd (gG (List.length m) 0 [.int .i64 0, .int .i64 0, .int .i64 0] [] (m ++ [.free])) fun r2 =>
 bd (jh [.int .i64 0, .int .i64 0, .int .i64 0] [(0, 1), (1, 1)] [.int .i64 1900, .int .i64 1] (r2.2 ++ [.free])) fun r4 =>
 bd (gG (List.length r2.2) 0 [.int .i64 0, .int .i64 0, .int .i64 0] [] r4.2) fun r5 =>
 bd (bD 3 [r5.1, r4.1] r5.2) fun r6 =>
 jn (O.loop [0, 2, 3] [0, 2, 3] lH (List.length r6.2) [t0, r2.1, r5.1] r6.2) fun r7 =>
 dR (dL 0 r7.1)
 (jn (O.loop [0, 2, 3] [0, 2, 3] lI (List.length r7.2.2) [(hd r7.2.1), (hd (tl r7.2.1)), (hd (tl (tl r7.2.1)))] r7.2.2) fun r9 =>
 dR (dL 2 r9.1)
 (bd (ak .add [(hd r9.2.1), .int .i64 1] r9.2.2) fun r11 =>
 bd (aK 2 [(hd (tl (tl r9.2.1)))] r11.2) fun r12 =>
 bd (bD 1 [r12.1, r11.1] r12.2) fun r13 =>
 bd (dh 3 [(hd (tl (tl r9.2.1)))] r13.2) fun r14 =>
 bd (bD 3 [(hd (tl r9.2.1)), r14.1] r14.2) fun r15 =>
 bd (Aq [(2, (hd (tl r9.2.1)))] r15.2 [.cell 2 true 3]) fun rs => bd (gc (List.length m) rs r15.2) fun r16 => some (aN r16))
 (fun i10 => none)
 (bd (Aq [(2, (hd (tl r9.2.1)))] r9.2.2 [.cell 2 true 3]) fun rs => bd (gc (List.length m) rs r9.2.2) fun r17 => some (aN r17)))
 (fun i8 => none)
 (bd (Aq [(2, (hd (tl r7.2.1)))] r7.2.2 [.cell 2 true 3]) fun rs => bd (gc (List.length m) rs r7.2.2) fun r18 => some (aN r18))
theorem QD (O : aJ) (t0 : D) (m : Mem) : wz.step2 O [t0] m = BU O t0 m := by kernel_rfl
def xG (O : aJ) (t0 : D) (m : Mem) : RV :=
 bd (au O fG [t0] (m ++ [.free])) fun r2 =>
 bd (gG (List.length m) 0 [.int .i64 0, .int .i64 0, .int .i64 0] [] r2.2) fun r3 =>
 bd (bD 3 [r3.1, r2.1] r3.2) fun r4 =>
 bd (aK 2 [r3.1] r4.2) fun r5 =>
 bd (aB [r5.1] r5.2) fun r6 =>
 bd (aK 0 [r3.1] r6.2) fun r7 =>
 bd (aB [r7.1] r7.2) fun r8 =>
 bd (aK 1 [r3.1] r8.2) fun r9 =>
 bd (aB [r9.1] r9.2) fun r10 =>
 bd (au O dJ [r8.1, r10.1] r10.2) fun r11 =>
 bd (ak .eql [r6.1, r11.1] r11.2) fun r12 =>
 bd (gc (List.length m) [r12.1] r12.2) fun r13 => some (aN r13)
theorem Rf (O : aJ) (t0 : D) (m : Mem) : wS.step2 O [t0] m = xG O t0 m := by kernel_rfl
def uV (O : aJ) (t0 t1 : D) (m : Mem) : RV :=
 jn (bd (ak .eql [t1, .int .i64 1] m) fun r1 =>
 jn (aH r1.1
 (some (.normal, [t0, t1, r1.1], r1.2))
 (bd (ak .eql [t1, .int .i64 3] r1.2) fun r2 =>
 jn (aH r2.1
 (some (.normal, [t0, t1, r2.1], r2.2))
 (bd (ak .eql [t1, .int .i64 5] r2.2) fun r3 =>
 jn (aH r3.1
 (some (.normal, [t0, t1, r3.1], r3.2))
 (bd (ak .eql [t1, .int .i64 7] r3.2) fun r4 =>
 jn (aH r4.1
 (some (.normal, [t0, t1, r4.1], r4.2))
 (bd (ak .eql [t1, .int .i64 8] r4.2) fun r5 =>
 jn (aH r5.1
 (some (.normal, [t0, t1, r5.1], r5.2))
 (bd (ak .eql [t1, .int .i64 10] r5.2) fun r6 =>
 jn (aH r6.1
 (some (.normal, [t0, t1, r6.1], r6.2))
 (bd (ak .eql [t1, .int .i64 12] r6.2) fun r7 =>
 some (.normal, [t0, t1, r7.1], r7.2))) fun r8 =>
 some (r8.1, [(hd r8.2.1), (hd (tl r8.2.1)), (hd (tl (tl r8.2.1)))], r8.2.2))) fun r9 =>
 some (r9.1, [(hd r9.2.1), (hd (tl r9.2.1)), (hd (tl (tl r9.2.1)))], r9.2.2))) fun r10 =>
 some (r10.1, [(hd r10.2.1), (hd (tl r10.2.1)), (hd (tl (tl r10.2.1)))], r10.2.2))) fun r11 =>
 some (r11.1, [(hd r11.2.1), (hd (tl r11.2.1)), (hd (tl (tl r11.2.1)))], r11.2.2))) fun r12 =>
 some (r12.1, [(hd r12.2.1), (hd (tl r12.2.1)), (hd (tl (tl r12.2.1)))], r12.2.2))) fun r13 =>
 dR r13.1
 (jn (aH (hd (tl (tl r13.2.1)))
 (some (.ret, [(.int .i64 31)], r13.2.2))
 (bd (ak .eql [(hd (tl r13.2.1)), .int .i64 4] r13.2.2) fun r15 =>
 jn (aH r15.1
 (some (.normal, [(hd r13.2.1), (hd (tl r13.2.1)), r15.1], r15.2))
 (bd (ak .eql [(hd (tl r13.2.1)), .int .i64 6] r15.2) fun r16 =>
 jn (aH r16.1
 (some (.normal, [(hd r13.2.1), (hd (tl r13.2.1)), r16.1], r16.2))
 (bd (ak .eql [(hd (tl r13.2.1)), .int .i64 9] r16.2) fun r17 =>
 jn (aH r17.1
 (some (.normal, [(hd r13.2.1), (hd (tl r13.2.1)), r17.1], r17.2))
 (bd (ak .eql [(hd (tl r13.2.1)), .int .i64 11] r17.2) fun r18 =>
 some (.normal, [(hd r13.2.1), (hd (tl r13.2.1)), r18.1], r18.2))) fun r19 =>
 some (r19.1, [(hd r19.2.1), (hd (tl r19.2.1)), (hd (tl (tl r19.2.1)))], r19.2.2))) fun r20 =>
 some (r20.1, [(hd r20.2.1), (hd (tl r20.2.1)), (hd (tl (tl r20.2.1)))], r20.2.2))) fun r21 =>
 dR r21.1
 (aH (hd (tl (tl r21.2.1)))
 (some (.ret, [(.int .i64 30)], r21.2.2))
 (bd (ak .eql [(hd (tl r21.2.1)), .int .i64 2] r21.2.2) fun r23 =>
 aH r23.1
 (bd (au O kC [(hd r21.2.1)] r23.2) fun r24 =>
 aH r24.1
 (some (.ret, [(.int .i64 29)], r24.2))
 (some (.ret, [(.int .i64 28)], r24.2)))
 (some (.normal, [.undef], r23.2))))
 (fun i22 => some ((.exit i22), [.undef], r21.2.2))
 (some (.ret, [.undef], r21.2.2)))) fun r25 =>
 some ((dL 0 r25.1), [(hd r25.2.1)], r25.2.2))
 (fun i14 => some ((dL 0 (.exit i14)), [.undef], r13.2.2))
 (some (.ret, [.undef], r13.2.2))) fun r26 =>
 dR r26.1
 (bd (gc (List.length m) [(.int .i64 0)] r26.2.2) fun r28 => some (aN r28))
 (fun i27 => none)
 (bd (gc (List.length m) [(hd r26.2.1)] r26.2.2) fun r29 => some (aN r29))
theorem Oy (O : aJ) (t0 t1 : D) (m : Mem) : uF.step2 O [t0, t1] m = uV O t0 t1 m := by kernel_rfl
def wB (O : aJ) (base : Nat) (t1 t4 t5 : D) (m : Mem) : Option (Ex × List D × Mem) :=
 bd (aK 0 [t1] m) fun r1 =>
 bd (aB [r1.1] r1.2) fun r2 =>
 bd (ak .lss [t5, r2.1] r2.2) fun r3 =>
 aH r3.1
 (bd (au O iK [t5] r3.2) fun r4 =>
 bd (ak .add [t4, r4.1] r4.2) fun r5 =>
 bd (ak .add [t5, .int .i64 1] r5.2) fun r6 =>
 bd (gc base [t1, r5.1, r6.1] r6.2) fun r7 => O.loop [1, 4, 5] [1, 4] oI base r7.1 r7.2)
 (bd (gc base [t1, t4] r3.2) fun r8 => some ((.exit 0), r8.1, r8.2))
theorem BM (O : aJ) (base : Nat) (t1 t4 t5 : D) (m : Mem) : bY O [1, 4, 5] [1, 4] oI base [t1, t4, t5] m = wB O base t1 t4 t5 m := by kernel_rfl
def wC (O : aJ) (base : Nat) (t1 t4 t6 : D) (m : Mem) : Option (Ex × List D × Mem) :=
 bd (aK 1 [t1] m) fun r1 =>
 bd (aB [r1.1] r1.2) fun r2 =>
 bd (ak .lss [t6, r2.1] r2.2) fun r3 =>
 aH r3.1
 (bd (aK 0 [t1] r3.2) fun r4 =>
 bd (aB [r4.1] r4.2) fun r5 =>
 bd (au O dJ [r5.1, t6] r5.2) fun r6 =>
 bd (ak .add [t4, r6.1] r6.2) fun r7 =>
 bd (ak .add [t6, .int .i64 1] r7.2) fun r8 =>
 bd (gc base [t1, r7.1, r8.1] r8.2) fun r9 => O.loop [1, 4, 6] [1, 4] oJ base r9.1 r9.2)
 (bd (gc base [t1, t4] r3.2) fun r10 => some ((.exit 2), r10.1, r10.2))
theorem BN (O : aJ) (base : Nat) (t1 t4 t6 : D) (m : Mem) : bY O [1, 4, 6] [1, 4] oJ base [t1, t4, t6] m = wC O base t1 t4 t6 m := by kernel_rfl
def uX (O : aJ) (t0 : D) (m : Mem) : RV :=
 bd (je (List.length m) 0 [t0] (m ++ [.free])) fun r2 =>
 bd (aK 0 [r2.1] r2.2) fun r3 =>
 bd (aB [r3.1] r3.2) fun r4 =>
 bd (ak .lss [r4.1, .int .i64 1900] r4.2) fun r5 =>
 bd (aG (ay r5.1 false) (aK 0 [r2.1] r5.2) r5.2) fun r6 =>
 bd (aG (ay r5.1 false) (aB [r6.1] r6.2) r6.2) fun r7 =>
 bd (aG (ay r5.1 false) (ak .gtr [r7.1, .int .i64 2199] r7.2) r7.2) fun r8 =>
 bd (bJ [r5.1, .bool true, r8.1] r8.2) fun r9 =>
 bd (aG (ay r9.1 false) (aK 2 [r2.1] r9.2) r9.2) fun r10 =>
 bd (aG (ay r9.1 false) (aB [r10.1] r10.2) r10.2) fun r11 =>
 bd (aG (ay r9.1 false) (ak .lss [r11.1, .int .i64 1] r11.2) r11.2) fun r12 =>
 bd (bJ [r9.1, .bool true, r12.1] r12.2) fun r13 =>
 bd (aG (ay r13.1 false) (aK 2 [r2.1] r13.2) r13.2) fun r14 =>
 bd (aG (ay r13.1 false) (aB [r14.1] r14.2) r14.2) fun r15 =>
 bd (aG (ay r13.1 false) (aK 0 [r2.1] r15.2) r15.2) fun r16 =>
 bd (aG (ay r13.1 false) (aB [r16.1] r16.2) r16.2) fun r17 =>
 bd (aG (ay r13.1 false) (aK 1 [r2.1] r17.2) r17.2) fun r18 =>
 bd (aG (ay r13.1 false) (aB [r18.1] r18.2) r18.2) fun r19 =>
 bd (aG (ay r13.1 false) (au O dJ [r17.1, r19.1] r19.2) r19.2) fun r20 =>
 bd (aG (ay r13.1 false) (ak .gtr [r15.1, r20.1] r20.2) r20.2) fun r21 =>
 bd (bJ [r13.1, .bool true, r21.1] r21.2) fun r22 =>
 aH r22.1
 (bd (gc (List.length m) [(.int .i64 0), (.bool false)] r22.2) fun r23 => some (aN r23))
 (jn (O.loop [1, 4, 5] [1, 4] oI (List.length r22.2) [r2.1, (.int .i64 0), (.int .i64 1900)] r22.2) fun r24 =>
 dR (dL 0 r24.1)
 (jn (O.loop [1, 4, 6] [1, 4] oJ (List.length r24.2.2) [(hd r24.2.1), (hd (tl r24.2.1)), (.int .i64 1)] r24.2.2) fun r26 =>
 dR (dL 2 r26.1)
 (bd (aK 2 [(hd r26.2.1)] r26.2.2) fun r28 =>
 bd (aB [r28.1] r28.2) fun r29 =>
 bd (ak .add [(hd (tl r26.2.1)), r29.1] r29.2) fun r30 =>
 bd (ak .sub [r30.1, .int .i64 1] r30.2) fun r31 =>
 bd (gc (List.length m) [r31.1, (.bool true)] r31.2) fun r32 => some (aN r32))
 (fun i27 => none)
 (none))
 (fun i25 => none)
 (none))
theorem Ii (O : aJ) (t0 : D) (m : Mem) : zJ.step2 O [t0] m = uX O t0 m := by kernel_rfl
def oL (O : aJ) (base : Nat) (t1 t5 t6 : D) (m : Mem) : Option (Ex × List D × Mem) :=
 bd (dh 9 [t1] m) fun r1 =>
 bd (au O nC [r1.1, t6] r1.2) fun r2 =>
 bd (aS 0 [r2.1] r2.2) fun r3 =>
 bd (aS 1 [r2.1] r3.2) fun r4 =>
 bd (iI [r4.1] r4.2) fun r5 =>
 bd (aG (ay r5.1 false) (bI [r3.1] r5.2) r5.2) fun r6 =>
 bd (aG (ay r5.1 false) (aK 0 [t1] r6.2) r6.2) fun r7 =>
 bd (aG (ay r5.1 false) (aB [r7.1] r7.2) r7.2) fun r8 =>
 bd (aG (ay r5.1 false) (ak .leq [r6.1, r8.1] r8.2) r8.2) fun r9 =>
 bd (bJ [r5.1, .bool true, r9.1] r9.2) fun r10 =>
 aH r10.1
 (bd (gc base [t5, r3.1, r4.1] r10.2) fun r11 => some (.ret, r11.1, r11.2))
 (bd (DW 1 [.int .i64 0] [(0, 1)] [r3.1] (r10.2 ++ [.free])) fun r13 =>
 bd (Jy (List.length r10.2) 0 1 [t5, r13.1] r13.2) fun r14 =>
 bd (ak .add [t6, .int .i64 1] r14.2) fun r15 =>
 bd (gc base [t1, r14.1, r15.1] r15.2) fun r16 => O.loop [1, 5, 6] [2, 3, 4] nN base r16.1 r16.2)
theorem yw (O : aJ) (base : Nat) (t1 t5 t6 : D) (m : Mem) : bY O [1, 5, 6] [2, 3, 4] nN base [t1, t5, t6] m = oL O base t1 t5 t6 m := by kernel_rfl
def Om (O : aJ) (t0 : D) (m : Mem) : RV :=
 bd (je (List.length m) 0 [t0] (m ++ [.free])) fun r2 =>
 jn (O.loop [1, 5, 6] [2, 3, 4] nN (List.length r2.2) [r2.1, (.cO), (.int .i64 0)] r2.2) fun r3 =>
 dR (dL 0 r3.1)
 (bd (gc (List.length m) [(hd r3.2.1), (hd (tl r3.2.1)), (hd (tl (tl r3.2.1)))] r3.2.2) fun r5 => some (aN r5))
 (fun i4 => none)
 (bd (gc (List.length m) [(hd r3.2.1), (hd (tl r3.2.1)), (hd (tl (tl r3.2.1)))] r3.2.2) fun r6 => some (aN r6))
theorem YS (O : aJ) (t0 : D) (m : Mem) : CU.step2 O [t0] m = Om O t0 m := by kernel_rfl
def qL (O : aJ) (base : Nat) (t0 t2 t3 : D) (m : Mem) : Option (Ex × List D × Mem) :=
 bd (ak .lss [t2, t3] m) fun r1 =>
 aH r1.1
 (bd (bT 1 [t0, t3] r1.2) fun r2 =>
 bd (aB [r2.1] r2.2) fun r3 =>
 bd (bT 1 [t0, t2] r3.2) fun r4 =>
 bd (aB [r4.1] r4.2) fun r5 =>
 bd (bT 1 [t0, t2] r5.2) fun r6 =>
 bd (bD 1 [r6.1, r3.1] r6.2) fun r7 =>
 bd (bT 1 [t0, t3] r7.2) fun r8 =>
 bd (bD 1 [r8.1, r5.1] r8.2) fun r9 =>
 bd (ak .add [t2, .int .i64 1] r9.2) fun r10 =>
 bd (ak .sub [t3, .int .i64 1] r10.2) fun r11 =>
 bd (gc base [t0, r10.1, r11.1] r11.2) fun r12 => O.loop [0, 2, 3] [] iq base r12.1 r12.2)
 (bd (gc base [] r1.2) fun r13 => some ((.exit 0), r13.1, r13.2))
theorem yj (O : aJ) (base : Nat) (t0 t2 t3 : D) (m : Mem) : bY O [0, 2, 3] [] iq base [t0, t2, t3] m = qL O base t0 t2 t3 m := by kernel_rfl
def BI (O : aJ) (t0 : D) (m : Mem) : RV :=
 bd (cZ [t0] m) fun r1 =>
 bd (ak .sub [r1.1, .int .i64 1] r1.2) fun r2 =>
 jn (O.loop [0, 2, 3] [] iq (List.length r2.2) [t0, (.int .i64 0), r2.1] r2.2) fun r3 =>
 dR (dL 0 r3.1)
 (bd (gc (List.length m) [] r3.2.2) fun r5 => some (aN r5))
 (fun i4 => none)
 (bd (gc (List.length m) [] r3.2.2) fun r6 => some (aN r6))
theorem Oz (O : aJ) (t0 : D) (m : Mem) : uG.step2 O [t0] m = BI O t0 m := by kernel_rfl
def Vz (O : aJ) (t0 t1 : D) (m : Mem) : RV :=
 bd (ak .eql [t0, .int .i64 0] m) fun r1 =>
 aH r1.1
 (bd (gc (List.length m) [(.aC)] r1.2) fun r2 => some (aN r2))
 (bd (jh [.int .i64 0, .str [], .aC] [(0, 1), (1, 1)] [t0, t1] (r1.2 ++ [.free])) fun r4 =>
 bd (je (List.length r1.2) 0 [r4.1] r4.2) fun r5 =>
 bd (PD jg [r5.1] r5.2) fun r6 =>
 bd (gc (List.length m) [r6.1] r6.2) fun r7 => some (aN r7))
theorem aeD (O : aJ) (t0 t1 : D) (m : Mem) : MG.step2 O [t0, t1] m = Vz O t0 t1 m := by kernel_rfl
def tN (O : aJ) (t0 t1 : D) (m : Mem) : RV :=
 bd (je (List.length m) 0 [t0] (m ++ [.free])) fun r2 =>
 bd (dh 9 [r2.1] r2.2) fun r3 =>
 bd (au O gW [r3.1] r3.2) fun r4 =>
 bd (iH true true [r4.1, .aC] r4.2) fun r5 =>
 aH r5.1
 (bd (gc (List.length m) [(.int .i64 0), r4.1] r5.2) fun r6 => some (aN r6))
 (bd (dh 9 [r2.1] r5.2) fun r7 =>
 bd (au O Bf [r7.1, t1] r7.2) fun r8 =>
 bd (aS 0 [r8.1] r8.2) fun r9 =>
 bd (aS 1 [r8.1] r9.2) fun r10 =>
 bd (iI [r10.1] r10.2) fun r11 =>
 bd (aG (ay r11.1 false) (bI [t1] r11.2) r11.2) fun r12 =>
 bd (aG (ay r11.1 false) (aK 0 [r2.1] r12.2) r12.2) fun r13 =>
 bd (aG (ay r11.1 false) (aB [r13.1] r13.2) r13.2) fun r14 =>
 bd (aG (ay r11.1 false) (ak .leq [r12.1, r14.1] r14.2) r14.2) fun r15 =>
 bd (bJ [r11.1, .bool true, r15.1] r15.2) fun r16 =>
 aH r16.1
 (bd (au O bV [.int .i64 4] r16.2) fun r17 =>
 bd (gc (List.length m) [(.int .i64 0), r17.1] r17.2) fun r18 => some (aN r18))
 (bd (dh 9 [r2.1] r16.2) fun r19 =>
 bd (ak .add [r9.1, .int .i64 1] r19.2) fun r20 =>
 bd (au O nC [r19.1, r20.1] r20.2) fun r21 =>
 bd (aS 0 [r21.1] r21.2) fun r22 =>
 bd (aS 1 [r21.1] r22.2) fun r23 =>
 bd (iI [r23.1] r23.2) fun r24 =>
 aH r24.1
 (bd (au O bV [.int .i64 4] r24.2) fun r25 =>
 bd (gc (List.length m) [(.int .i64 0), r25.1] r25.2) fun r26 => some (aN r26))
 (bd (gc (List.length m) [r22.1, (.aC)] r24.2) fun r27 => some (aN r27))))
theorem Ih (O : aJ) (t0 t1 : D) (m : Mem) : I5.step2 O [t0, t1] m = tN O t0 t1 m := by kernel_rfl
def JO (O : aJ) (base : Nat) (t1 t4 t5 : D) (m : Mem) : Option (Ex × List D × Mem) :=
 bd (aK 1 [t1] m) fun r1 =>
 bd (aB [r1.1] r1.2) fun r2 =>
 bd (ak .lss [t5, r2.1] r2.2) fun r3 =>
 aH r3.1
 (bd (aK 0 [t1] r3.2) fun r4 =>
 bd (aB [r4.1] r4.2) fun r5 =>
 bd (au O fF [r5.1, t5] r5.2) fun r6 =>
 bd (ak .add [t4, r6.1] r6.2) fun r7 =>
 bd (ak .add [t5, .int .i64 1] r7.2) fun r8 =>
 bd (gc base [t1, r7.1, r8.1] r8.2) fun r9 => O.loop [1, 4, 5] [4] AL base r9.1 r9.2)
 (bd (gc base [t4] r3.2) fun r10 => some ((.exit 0), r10.1, r10.2))
theorem Q7 (O : aJ) (base : Nat) (t1 t4 t5 : D) (m : Mem) : bY O [1, 4, 5] [4] AL base [t1, t4, t5] m = JO O base t1 t4 t5 m := by kernel_rfl
def LW (O : aJ) (t0 : D) (m : Mem) : RV :=
 bd (je (List.length m) 0 [t0] (m ++ [.free])) fun r2 =>
 bd (aK 0 [r2.1] r2.2) fun r3 =>
 bd (aB [r3.1] r3.2) fun r4 =>
 bd (ak .lss [r4.1, .int .i64 1900] r4.2) fun r5 =>
 bd (aG (ay r5.1 false) (aK 0 [r2.1] r5.2) r5.2) fun r6 =>
 bd (aG (ay r5.1 false) (aB [r6.1] r6.2) r6.2) fun r7 =>
 bd (aG (ay r5.1 false) (ak .gtr [r7.1, .int .i64 2199] r7.2) r7.2) fun r8 =>
 bd (bJ [r5.1, .bool true, r8.1] r8.2) fun r9 =>
 bd (aG (ay r9.1 false) (aK 2 [r2.1] r9.2) r9.2) fun r10 =>
 bd (aG (ay r9.1 false) (aB [r10.1] r10.2) r10.2) fun r11 =>
 bd (aG (ay r9.1 false) (ak .lss [r11.1, .int .i64 1] r11.2) r11.2) fun r12 =>
 bd (bJ [r9.1, .bool true, r12.1] r12.2) fun r13 =>
 bd (aG (ay r13.1 false) (aK 2 [r2.1] r13.2) r13.2) fun r14 =>
 bd (aG (ay r13.1 false) (aB [r14.1] r14.2) r14.2) fun r15 =>
 bd (aG (ay r13.1 false) (aK 0 [r2.1] r15.2) r15.2) fun r16 =>
 bd (aG (ay r13.1 false) (aB [r16.1] r16.2) r16.2) fun r17 =>
 bd (aG (ay r13.1 false) (aK 1 [r2.1] r17.2) r17.2) fun r18 =>
 bd (aG (ay r13.1 false) (aB [r18.1] r18.2) r18.2) fun r19 =>
 bd (aG (ay r13.1 false) (au O fF [r17.1, r19.1] r19.2) r19.2) fun r20 =>
 bd (aG (ay r13.1 false) (ak .gtr [r15.1, r20.1] r20.2) r20.2) fun r21 =>
 bd (bJ [r13.1, .bool true, r21.1] r21.2) fun r22 =>
 aH r22.1
 (bd (au O bV [.int .i64 4] r22.2) fun r23 =>
 bd (gc (List.length m) [(.int .i64 0), r23.1] r23.2) fun r24 => some (aN r24))
 (bd (aK 0 [r2.1] r22.2) fun r25 =>
 bd (aB [r25.1] r25.2) fun r26 =>
 bd (au O mW [r26.1] r26.2) fun r27 =>
 bd (aK 2 [r2.1] r27.2) fun r28 =>
 bd (aB [r28.1] r28.2) fun r29 =>
 bd (ak .add [r27.1, r29.1] r29.2) fun r30 =>
 bd (ak .sub [r30.1, .int .i64 1] r30.2) fun r31 =>
 jn (O.loop [1, 4, 5] [4] AL (List.length r31.2) [r2.1, r31.1, (.int .i64 1)] r31.2) fun r32 =>
 dR (dL 0 r32.1)
 (bd (gc (List.length m) [(hd r32.2.1), (.aC)] r32.2.2) fun r34 => some (aN r34))
 (fun i33 => none)
 (none))
theorem ZM (O : aJ) (t0 : D) (m : Mem) : RQ.step2 O [t0] m = LW O t0 m := by kernel_rfl
def Gp (O : aJ) (t0 t1 : D) (m : Mem) : RV :=
 jn (bd (ak .eql [t1, .int .i64 2] m) fun r1 =>
 jn (aH r1.1
 (bd (au O EJ [t0] r1.2) fun r2 =>
 aH r2.1
 (some (.ret, [(.int .i64 29)], r2.2))
 (some (.ret, [(.int .i64 28)], r2.2)))
 (bd (ak .eql [t1, .int .i64 4] r1.2) fun r3 =>
 jn (aH r3.1
 (some (.normal, [t1, r3.1], r3.2))
 (bd (ak .eql [t1, .int .i64 6] r3.2) fun r4 =>
 jn (aH r4.1
 (some (.normal, [t1, r4.1], r4.2))
 (bd (ak .eql [t1, .int .i64 9] r4.2) fun r5 =>
 jn (aH r5.1
 (some (.normal, [t1, r5.1], r5.2))
 (bd (ak .eql [t1, .int .i64 11] r5.2) fun r6 =>
 some (.normal, [t1, r6.1], r6.2))) fun r7 =>
 some (r7.1, [(hd r7.2.1), (hd (tl r7.2.1))], r7.2.2))) fun r8 =>
 some (r8.1, [(hd r8.2.1), (hd (tl r8.2.1))], r8.2.2))) fun r9 =>
 dR r9.1
 (jn (aH (hd (tl r9.2.1))
 (some (.ret, [(.int .i64 30)], r9.2.2))
 (bd (ak .eql [(hd r9.2.1), .int .i64 1] r9.2.2) fun r11 =>
 jn (aH r11.1
 (some (.normal, [r11.1], r11.2))
 (bd (ak .eql [(hd r9.2.1), .int .i64 3] r11.2) fun r12 =>
 jn (aH r12.1
 (some (.normal, [r12.1], r12.2))
 (bd (ak .eql [(hd r9.2.1), .int .i64 5] r12.2) fun r13 =>
 jn (aH r13.1
 (some (.normal, [r13.1], r13.2))
 (bd (ak .eql [(hd r9.2.1), .int .i64 7] r13.2) fun r14 =>
 jn (aH r14.1
 (some (.normal, [r14.1], r14.2))
 (bd (ak .eql [(hd r9.2.1), .int .i64 8] r14.2) fun r15 =>
 jn (aH r15.1
 (some (.normal, [r15.1], r15.2))
 (bd (ak .eql [(hd r9.2.1), .int .i64 10] r15.2) fun r16 =>
 jn (aH r16.1
 (some (.normal, [r16.1], r16.2))
 (bd (ak .eql [(hd r9.2.1), .int .i64 12] r16.2) fun r17 =>
 some (.normal, [r17.1], r17.2))) fun r18 =>
 some (r18.1, [(hd r18.2.1)], r18.2.2))) fun r19 =>
 some (r19.1, [(hd r19.2.1)], r19.2.2))) fun r20 =>
 some (r20.1, [(hd r20.2.1)], r20.2.2))) fun r21 =>
 some (r21.1, [(hd r21.2.1)], r21.2.2))) fun r22 =>
 some (r22.1, [(hd r22.2.1)], r22.2.2))) fun r23 =>
 dR r23.1
 (aH (hd r23.2.1)
 (some (.ret, [(.int .i64 31)], r23.2.2))
 (some (.normal, [.undef], r23.2.2)))
 (fun i24 => some ((.exit i24), [.undef], r23.2.2))
 (some (.ret, [.undef], r23.2.2)))) fun r25 =>
 some (r25.1, [(hd r25.2.1)], r25.2.2))
 (fun i10 => some ((.exit i10), [.undef], r9.2.2))
 (some (.ret, [.undef], r9.2.2)))) fun r26 =>
 some ((dL 0 r26.1), [(hd r26.2.1)], r26.2.2)) fun r27 =>
 dR r27.1
 (bd (gc (List.length m) [(.int .i64 0)] r27.2.2) fun r29 => some (aN r29))
 (fun i28 => none)
 (bd (gc (List.length m) [(hd r27.2.1)] r27.2.2) fun r30 => some (aN r30))
theorem aaU (O : aJ) (t0 t1 : D) (m : Mem) : Fq.step2 O [t0, t1] m = Gp O t0 t1 m := by kernel_rfl
def BA (O : aJ) (base : Nat) (t0 t2 t4 : D) (m : Mem) : Option (Ex × List D × Mem) :=
 bd (aK 0 [t4] m) fun r1 =>
 bd (aB [r1.1] r1.2) fun r2 =>
 bd (ak .add [r2.1, .int .i64 1] r2.2) fun r3 =>
 bd (au O mW [r3.1] r3.2) fun r4 =>
 bd (ak .leq [r4.1, t0] r4.2) fun r5 =>
 aH r5.1
 (bd (aK 0 [t4] r5.2) fun r6 =>
 bd (aB [r6.1] r6.2) fun r7 =>
 bd (ak .add [r7.1, .int .i64 1] r7.2) fun r8 =>
 bd (aK 0 [t4] r8.2) fun r9 =>
 bd (bD 1 [r9.1, r8.1] r9.2) fun r10 =>
 bd (gc base [t0, t2, t4] r10.2) fun r11 => O.loop [0, 2, 4] [0, 2, 4] u_ base r11.1 r11.2)
 (bd (gc base [t0, t2, t4] r5.2) fun r12 => some ((.exit 0), r12.1, r12.2))
theorem Kr (O : aJ) (base : Nat) (t0 t2 t4 : D) (m : Mem) : bY O [0, 2, 4] [0, 2, 4] u_ base [t0, t2, t4] m = BA O base t0 t2 t4 m := by kernel_rfl
def BD (O : aJ) (base : Nat) (t2 t4 t5 : D) (m : Mem) : Option (Ex × List D × Mem) :=
 bd (aK 0 [t4] m) fun r1 =>
 bd (aB [r1.1] r1.2) fun r2 =>
 bd (aK 1 [t4] r2.2) fun r3 =>
 bd (aB [r3.1] r3.2) fun r4 =>
 bd (au O fF [r2.1, r4.1] r4.2) fun r5 =>
 bd (ak .geq [t5, r5.1] r5.2) fun r6 =>
 aH r6.1
 (bd (aK 0 [t4] r6.2) fun r7 =>
 bd (aB [r7.1] r7.2) fun r8 =>
 bd (aK 1 [t4] r8.2) fun r9 =>
 bd (aB [r9.1] r9.2) fun r10 =>
 bd (au O fF [r8.1, r10.1] r10.2) fun r11 =>
 bd (ak .sub [t5, r11.1] r11.2) fun r12 =>
 bd (aK 1 [t4] r12.2) fun r13 =>
 bd (aB [r13.1] r13.2) fun r14 =>
 bd (ak .add [r14.1, .int .i64 1] r14.2) fun r15 =>
 bd (aK 1 [t4] r15.2) fun r16 =>
 bd (bD 1 [r16.1, r15.1] r16.2) fun r17 =>
 bd (gc base [t2, t4, r12.1] r17.2) fun r18 => O.loop [2, 4, 5] [2, 4, 5] vg base r18.1 r18.2)
 (bd (gc base [t2, t4, t5] r6.2) fun r19 => some ((.exit 2), r19.1, r19.2))
theorem Kt (O : aJ) (base : Nat) (t2 t4 t5 : D) (m : Mem) : bY O [2, 4, 5] [2, 4, 5] vg base [t2, t4, t5] m = BD O base t2 t4 t5 m := by kernel_rfl
def JM (O : aJ) (t0 : D) (m : Mem) : RV :=
 bd (gG (List.length m) 0 [.int .i64 0, .int .i64 0, .int .i64 0] [] (m ++ [.free])) fun r2 =>
 bd (au O Cj [t0] r2.2) fun r3 =>
 bd (iI [r3.1] r3.2) fun r4 =>
 aH r4.1
 (bd (jh [.int .i64 0, .int .i64 0, .int .i64 0] [] [] r4.2) fun r5 =>
 bd (au O bV [.int .i64 4] r5.2) fun r6 =>
 bd (bD 3 [r2.1, r5.1] r6.2) fun r7 =>
 bd (Aq [(2, r2.1), (3, r6.1)] r7.2 [.cell 2 true 3, .tmp 3]) fun rs => bd (gc (List.length m) rs r7.2) fun r8 => some (aN r8))
 (bd (ak .quo [t0, .int .i64 366] (r4.2 ++ [.free])) fun r10 =>
 bd (ak .add [.int .i64 1900, r10.1] r10.2) fun r11 =>
 bd (jh [.int .i64 0, .int .i64 0, .int .i64 0] [(0, 1), (1, 1)] [r11.1, .int .i64 1] r11.2) fun r12 =>
 bd (gG (List.length r4.2) 0 [.int .i64 0, .int .i64 0, .int .i64 0] [] r12.2) fun r13 =>
 bd (bD 3 [r13.1, r12.1] r13.2) fun r14 =>
 jn (O.loop [0, 2, 4] [0, 2, 4] u_ (List.length r14.2) [t0, r2.1, r13.1] r14.2) fun r15 =>
 dR (dL 0 r15.1)
 (bd (aK 0 [(hd (tl (tl r15.2.1)))] r15.2.2) fun r17 =>
 bd (aB [r17.1] r17.2) fun r18 =>
 bd (au O mW [r18.1] r18.2) fun r19 =>
 bd (ak .sub [(hd r15.2.1), r19.1] r19.2) fun r20 =>
 jn (O.loop [2, 4, 5] [2, 4, 5] vg (List.length r20.2) [(hd (tl r15.2.1)), (hd (tl (tl r15.2.1))), r20.1] r20.2) fun r21 =>
 dR (dL 2 r21.1)
 (bd (ak .add [(hd (tl (tl r21.2.1))), .int .i64 1] r21.2.2) fun r23 =>
 bd (aK 2 [(hd (tl r21.2.1))] r23.2) fun r24 =>
 bd (bD 1 [r24.1, r23.1] r24.2) fun r25 =>
 bd (dh 3 [(hd (tl r21.2.1))] r25.2) fun r26 =>
 bd (bD 3 [(hd r21.2.1), r26.1] r26.2) fun r27 =>
 bd (Aq [(2, (hd r21.2.1)), (3, (.aC))] r27.2 [.cell 2 true 3, .tmp 3]) fun rs => bd (gc (List.length m) rs r27.2) fun r28 => some (aN r28))
 (fun i22 => none)
 (bd (Aq [(2, (hd r21.2.1))] r21.2.2 [.cell 2 true 3, .tmp 3]) fun rs => bd (gc (List.length m) rs r21.2.2) fun r29 => some (aN r29)))
 (fun i16 => none)
 (bd (Aq [(2, (hd (tl r15.2.1)))] r15.2.2 [.cell 2 true 3, .tmp 3]) fun rs => bd (gc (List.length m) rs r15.2.2) fun r30 => some (aN r30)))
theorem Q5 (O : aJ) (t0 : D) (m : Mem) : IY.step2 O [t0] m = JM O t0 m := by kernel_rfl
def Oj (O : aJ) (t0 : D) (m : Mem) : RV :=
 bd (je (List.length m) 0 [t0] (m ++ [.free])) fun r2 =>
 bd (aK 2 [r2.1] r2.2) fun r3 =>
 bd (aB [r3.1] r3.2) fun r4 =>
 bd (au O iD [.int .i64 1, r4.1] r4.2) fun r5 =>
 bd (aS 0 [r5.1] r5.2) fun r6 =>
 bd (aS 1 [r5.1] r6.2) fun r7 =>
 bd (dh 9 [r2.1] r7.2) fun r8 =>
 bd (au O jR [r8.1] r8.2) fun r9 =>
 bd (au O iy [r9.1, r6.1] r9.2) fun r10 =>
 bd (gc (List.length m) [r10.1] r10.2) fun r11 => some (aN r11)
theorem YM (O : aJ) (t0 : D) (m : Mem) : CG.step2 O [t0] m = Oj O t0 m := by kernel_rfl
def Hl (O : aJ) (t0 t1 : D) (m : Mem) : RV :=
 bd (je (List.length m) 0 [t0] (m ++ [.free, .free])) fun r2 =>
 bd (je (List.length m) 1 [t1] r2.2) fun r3 =>
 bd (dh 9 [r2.1] r3.2) fun r4 =>
 bd (au O fV [r4.1] r4.2) fun r5 =>
 bd (aS 0 [r5.1] r5.2) fun r6 =>
 bd (aS 1 [r5.1] r6.2) fun r7 =>
 bd (iH true true [r7.1, .aC] r7.2) fun r8 =>
 aH r8.1
 (bd (gc (List.length m) [(.aO), r7.1] r8.2) fun r9 => some (aN r9))
 (bd (dh 9 [r2.1] r8.2) fun r10 =>
 bd (dh 2 [r3.1] r10.2) fun r11 =>
 bd (au O g_ [r10.1, r11.1] r11.2) fun r12 =>
 aH r12.1
 (bd (dh 9 [r2.1] r12.2) fun r13 =>
 bd (au O pW [r13.1] r13.2) fun r14 =>
 bd (gc (List.length m) [r14.1, (.aC)] r14.2) fun r15 => some (aN r15))
 (bd (dh 9 [r2.1] r12.2) fun r16 =>
 bd (dh 2 [r3.1] r16.2) fun r17 =>
 bd (aK 0 [r3.1] r17.2) fun r18 =>
 bd (aB [r18.1] r18.2) fun r19 =>
 bd (aK 1 [r3.1] r19.2) fun r20 =>
 bd (aB [r20.1] r20.2) fun r21 =>
 bd (au O tY [r16.1, r17.1, r19.1, r21.1] r21.2) fun r22 =>
 bd (aS 0 [r22.1] r22.2) fun r23 =>
 bd (aS 1 [r22.1] r23.2) fun r24 =>
 bd (iH true true [r24.1, .aC] r24.2) fun r25 =>
 aH r25.1
 (bd (gc (List.length m) [(.aO), r24.1] r25.2) fun r26 => some (aN r26))
 (bd (dh 9 [r2.1] r25.2) fun r27 =>
 bd (au O jR [r27.1] r27.2) fun r28 =>
 bd (au O iy [r28.1, r23.1] r28.2) fun r29 =>
 bd (gc (List.length m) [r29.1, (.aC)] r29.2) fun r30 => some (aN r30))))
theorem agD (O : aJ) (t0 t1 : D) (m : Mem) : OO.step2 O [t0, t1] m = Hl O t0 t1 m := by kernel_rfl
def Gz (O : aJ) (t0 t1 : D) (m : Mem) : RV :=
 bd (au O bM [t0] m) fun r1 =>
 bd (au O bM [t1] r1.2) fun r2 =>
 bd (au O m_ [r1.1, r2.1] r2.2) fun r3 =>
 bd (ak .eql [r3.1, .int .i64 0] r3.2) fun r4 =>
 aH r4.1
 (bd (au O b_ [t0] r4.2) fun r5 =>
 bd (au O b_ [t1] r5.2) fun r6 =>
 bd (au O fM [r5.1, r6.1] r6.2) fun r7 =>
 bd (au O bM [t0] r7.2) fun r8 =>
 bd (au O qg [r7.1, r8.1] r8.2) fun r9 =>
 bd (gc (List.length m) [r9.1] r9.2) fun r10 => some (aN r10))
 (bd (au O b_ [t0] r4.2) fun r11 =>
 bd (au O bM [t1] r11.2) fun r12 =>
 bd (au O bU [r11.1, r12.1] r12.2) fun r13 =>
 bd (au O b_ [t1] r13.2) fun r14 =>
 bd (au O bM [t0] r14.2) fun r15 =>
 bd (au O bU [r14.1, r15.1] r15.2) fun r16 =>
 bd (au O fM [r13.1, r16.1] r16.2) fun r17 =>
 bd (au O bM [t0] r17.2) fun r18 =>
 bd (au O bM [t1] r18.2) fun r19 =>
 bd (au O bU [r18.1, r19.1] r19.2) fun r20 =>
 bd (au O qg [r17.1, r20.1] r20.2) fun r21 =>
 bd (gc (List.length m) [r21.1] r21.2) fun r22 => some (aN r22))
theorem abb (O : aJ) (t0 t1 : D) (m : Mem) : F7.step2 O [t0, t1] m = Gz O t0 t1 m := by kernel_rfl
def Gn (O : aJ) (t0 : D) (m : Mem) : RV :=
 bd (je (List.length m) 0 [t0] (m ++ [.free])) fun r2 =>
 bd (dh 9 [r2.1] r2.2) fun r3 =>
 bd (au O gW [r3.1] r3.2) fun r4 =>
 bd (iH true true [r4.1, .aC] r4.2) fun r5 =>
 aH r5.1
 (bd (au O mF [.int .i64 0] r5.2) fun r6 =>
 bd (gc (List.length m) [r6.1] r6.2) fun r7 => some (aN r7))
 (bd (aK 4 [r2.1] r5.2) fun r8 =>
 bd (aB [r8.1] r8.2) fun r9 =>
 bd (au O lg [r9.1] r9.2) fun r10 =>
 bd (aS 0 [r10.1] r10.2) fun r11 =>
 bd (aS 1 [r10.1] r11.2) fun r12 =>
 bd (aS 2 [r10.1] r12.2) fun r13 =>
 bd (gc (List.length m) [r11.1] r13.2) fun r14 => some (aN r14))
theorem aaT (O : aJ) (t0 : D) (m : Mem) : Fp.step2 O [t0] m = Gn O t0 m := by kernel_rfl
def jo (O : aJ) (t0 : D) (m : Mem) : RV :=
 bd (je (List.length m) 0 [t0] (m ++ [.free])) fun r2 =>
 bd (aK 2 [r2.1] r2.2) fun r3 =>
 bd (aB [r3.1] r3.2) fun r4 =>
 jn (bd (ak .eql [r4.1, .int .i64 1] r4.2) fun r5 =>
 jn (aH r5.1
 (some (.normal, [r2.1, r5.1], r5.2))
 (bd (ak .eql [r4.1, .int .i64 2] r5.2) fun r6 =>
 jn (aH r6.1
 (some (.normal, [r2.1, r6.1], r6.2))
 (bd (ak .eql [r4.1, .int .i64 4] r6.2) fun r7 =>
 jn (aH r7.1
 (some (.normal, [r2.1, r7.1], r7.2))
 (bd (ak .eql [r4.1, .int .i64 12] r7.2) fun r8 =>
 some (.normal, [r2.1, r8.1], r8.2))) fun r9 =>
 some (r9.1, [(hd r9.2.1), (hd (tl r9.2.1))], r9.2.2))) fun r10 =>
 some (r10.1, [(hd r10.2.1), (hd (tl r10.2.1))], r10.2.2))) fun r11 =>
 dR r11.1
 (aH (hd (tl r11.2.1))
 (bd (aK 2 [(hd r11.2.1)] r11.2.2) fun r13 =>
 bd (aB [r13.1] r13.2) fun r14 =>
 bd (ak .quo [.int .i64 12, r14.1] r14.2) fun r15 =>
 some (.ret, [r15.1], r15.2))
 (some (.normal, [.undef], r11.2.2)))
 (fun i12 => some ((dL 0 (.exit i12)), [.undef], r11.2.2))
 (some (.ret, [.undef], r11.2.2))) fun r16 =>
 dR r16.1
 (bd (gc (List.length m) [(.int .i64 0)] r16.2.2) fun r18 => some (aN r18))
 (fun i17 => none)
 (bd (gc (List.length m) [(hd r16.2.1)] r16.2.2) fun r19 => some (aN r19))
theorem NC (O : aJ) (t0 : D) (m : Mem) : sN.step2 O [t0] m = jo O t0 m := by kernel_rfl
def Ap (O : aJ) (t0 t1 : D) (m : Mem) : RV :=
 bd (au O fO [t0] m) fun r1 =>
 bd (iI [r1.1] r1.2) fun r2 =>
 bd (aG (ay r2.1 false) (bI [t1] r2.2) r2.2) fun r3 =>
 bd (aG (ay r2.1 false) (au O fO [r3.1] r3.2) r3.2) fun r4 =>
 bd (aG (ay r2.1 false) (iI [r4.1] r4.2) r4.2) fun r5 =>
 bd (bJ [r2.1, .bool true, r5.1] r5.2) fun r6 =>
 aH r6.1
 (bd (gc (List.length m) [(.int .i64 0)] r6.2) fun r7 => some (aN r7))
 (bd (au O fG [t0] (r6.2 ++ [.free, .free])) fun r9 =>
 bd (au O fG [t1] r9.2) fun r10 =>
 bd (gG (List.length r6.2) 0 [.int .i64 0, .int .i64 0, .int .i64 0] [] r10.2) fun r11 =>
 bd (gG (List.length r6.2) 1 [.int .i64 0, .int .i64 0, .int .i64 0] [] r11.2) fun r12 =>
 bd (bD 3 [r11.1, r9.1] r12.2) fun r13 =>
 bd (bD 3 [r12.1, r10.1] r13.2) fun r14 =>
 bd (aK 0 [r12.1] r14.2) fun r15 =>
 bd (aB [r15.1] r15.2) fun r16 =>
 bd (aK 0 [r11.1] r16.2) fun r17 =>
 bd (aB [r17.1] r17.2) fun r18 =>
 bd (ak .sub [r16.1, r18.1] r18.2) fun r19 =>
 bd (ak .mul [.int .i64 12, r19.1] r19.2) fun r20 =>
 bd (aK 1 [r12.1] r20.2) fun r21 =>
 bd (aB [r21.1] r21.2) fun r22 =>
 bd (ak .add [r20.1, r22.1] r22.2) fun r23 =>
 bd (aK 1 [r11.1] r23.2) fun r24 =>
 bd (aB [r24.1] r24.2) fun r25 =>
 bd (ak .sub [r23.1, r25.1] r25.2) fun r26 =>
 bd (gc (List.length m) [r26.1] r26.2) fun r27 => some (aN r27))
theorem ND (O : aJ) (t0 t1 : D) (m : Mem) : sO.step2 O [t0, t1] m = Ap O t0 t1 m := by kernel_rfl
def rX (O : aJ) (t0 : D) (m : Mem) : RV :=
 bd (je (List.length m) 0 [t0] (m ++ [.free])) fun r2 =>
 bd (aK 0 [r2.1] r2.2) fun r3 =>
 bd (aB [r3.1] r3.2) fun r4 =>
 bd (au O eH [r4.1] r4.2) fun r5 =>
 bd (ak .lss [r5.1, .int .i64 0] r5.2) fun r6 =>
 aH r6.1
 (bd (au O dM [.int .i64 4, .str [105, 115, 115, 117, 101]] r6.2) fun r7 =>
 bd (gc (List.length m) [r7.1] r7.2) fun r8 => some (aN r8))
 (bd (aK 1 [r2.1] r6.2) fun r9 =>
 bd (aB [r9.1] r9.2) fun r10 =>
 bd (au O eH [r10.1] r10.2) fun r11 =>
 bd (ak .lss [r11.1, .int .i64 0] r11.2) fun r12 =>
 aH r12.1
 (bd (au O dM [.int .i64 4, .str [109, 97, 116, 117, 114, 101]] r12.2) fun r13 =>
 bd (gc (List.length m) [r13.1] r13.2) fun r14 => some (aN r14))
 (bd (aK 1 [r2.1] r12.2) fun r15 =>
 bd (aB [r15.1] r15.2) fun r16 =>
 bd (aK 0 [r2.1] r16.2) fun r17 =>
 bd (aB [r17.1] r17.2) fun r18 =>
 bd (ak .leq [r16.1, r18.1] r18.2) fun r19 =>
 aH r19.1
 (bd (au O dM [.int .i64 5, .str [109, 97, 116, 117, 114, 101]] r19.2) fun r20 =>
 bd (gc (List.length m) [r20.1] r20.2) fun r21 => some (aN r21))
 (bd (aK 0 [r2.1] r19.2) fun r22 =>
 bd (aB [r22.1] r22.2) fun r23 =>
 bd (au O lN [r23.1, .int .i64 360, .bool false] r23.2) fun r24 =>
 bd (aS 0 [r24.1] r24.2) fun r25 =>
 bd (aS 1 [r24.1] r25.2) fun r26 =>
 bd (iH false true [r26.1, .aC] r26.2) fun r27 =>
 bd (aG (ay r27.1 true) (aK 1 [r2.1] r27.2) r27.2) fun r28 =>
 bd (aG (ay r27.1 true) (aB [r28.1] r28.2) r28.2) fun r29 =>
 bd (aG (ay r27.1 true) (bI [r25.1] r29.2) r29.2) fun r30 =>
 bd (aG (ay r27.1 true) (ak .gtr [r29.1, r30.1] r30.2) r30.2) fun r31 =>
 bd (bJ [r27.1, r31.1, .bool false] r31.2) fun r32 =>
 aH r32.1
 (bd (au O dM [.int .i64 5, .str [109, 97, 116, 117, 114, 101]] r32.2) fun r33 =>
 bd (gc (List.length m) [r33.1] r33.2) fun r34 => some (aN r34))
 (bd (gc (List.length m) [(.aC)] r32.2) fun r35 => some (aN r35)))))
theorem aez (O : aJ) (t0 : D) (m : Mem) : Me.step2 O [t0] m = rX O t0 m := by kernel_rfl
def kW (O : aJ) (t0 : D) (m : Mem) : RV :=
 bd (je (List.length m) 0 [t0] (m ++ [.free])) fun r2 =>
 bd (aK 3 [r2.1] r2.2) fun r3 =>
 bd (aB [r3.1] r3.2) fun r4 =>
 bd (au O lg [r4.1] r4.2) fun r5 =>
 bd (aS 0 [r5.1] r5.2) fun r6 =>
 bd (aS 1 [r5.1] r6.2) fun r7 =>
 bd (aS 2 [r5.1] r7.2) fun r8 =>
 bd (iH true true [r8.1, .aC] r8.2) fun r9 =>
 aH r9.1
 (bd (au O dM [.int .i64 1, .str [99, 111, 117, 112, 111, 110]] r9.2) fun r10 =>
 bd (gc (List.length m) [r10.1] r10.2) fun r11 => some (aN r11))
 (bd (iI [r7.1] r9.2) fun r12 =>
 bd (aG (ay r12.1 false) (bI [r6.1] r12.2) r12.2) fun r13 =>
 bd (aG (ay r12.1 false) (au O jr [r13.1] r13.2) r13.2) fun r14 =>
 bd (aG (ay r12.1 false) (ak .lss [r14.1, .int .i64 0] r14.2) r14.2) fun r15 =>
 bd (bJ [r12.1, .bool true, r15.1] r15.2) fun r16 =>
 bd (aG (ay r16.1 false) (bI [r6.1] r16.2) r16.2) fun r17 =>
 bd (aG (ay r16.1 false) (au O mF [.int .i64 30] r17.2) r17.2) fun r18 =>
 bd (aG (ay r16.1 false) (au O kV [r17.1, r18.1] r18.2) r18.2) fun r19 =>
 bd (aG (ay r16.1 false) (ak .gtr [r19.1, .int .i64 0] r19.2) r19.2) fun r20 =>
 bd (bJ [r16.1, .bool true, r20.1] r20.2) fun r21 =>
 aH r21.1
 (bd (au O dM [.int .i64 5, .str [99, 111, 117, 112, 111, 110]] r21.2) fun r22 =>
 bd (gc (List.length m) [r22.1] r22.2) fun r23 => some (aN r23))
 (bd (aK 4 [r2.1] r21.2) fun r24 =>
 bd (aB [r24.1] r24.2) fun r25 =>
 bd (au O lg [r25.1] r25.2) fun r26 =>
 bd (aS 0 [r26.1] r26.2) fun r27 =>
 bd (aS 1 [r26.1] r27.2) fun r28 =>
 bd (aS 2 [r26.1] r28.2) fun r29 =>
 bd (iH true true [r29.1, .aC] r29.2) fun r30 =>
 aH r30.1
 (bd (au O dM [.int .i64 1, .str [114, 101, 100, 101, 101, 109]] r30.2) fun r31 =>
 bd (gc (List.length m) [r31.1] r31.2) fun r32 => some (aN r32))
 (bd (iI [r28.1] r30.2) fun r33 =>
 bd (aG (ay r33.1 false) (bI [r27.1] r33.2) r33.2) fun r34 =>
 bd (aG (ay r33.1 false) (au O jr [r34.1] r34.2) r34.2) fun r35 =>
 bd (aG (ay r33.1 false) (ak .leq [r35.1, .int .i64 0] r35.2) r35.2) fun r36 =>
 bd (bJ [r33.1, .bool true, r36.1] r36.2) fun r37 =>
 bd (aG (ay r37.1 false) (bI [r27.1] r37.2) r37.2) fun r38 =>
 bd (aG (ay r37.1 false) (au O mF [.int .i64 200] r38.2) r38.2) fun r39 =>
 bd (aG (ay r37.1 false) (au O kV [r38.1, r39.1] r39.2) r39.2) fun r40 =>
 bd (aG (ay r37.1 false) (ak .gtr [r40.1, .int .i64 0] r40.2) r40.2) fun r41 =>
 bd (bJ [r37.1, .bool true, r41.1] r41.2) fun r42 =>
 aH r42.1
 (bd (au O dM [.int .i64 5, .str [114, 101, 100, 101, 101, 109]] r42.2) fun r43 =>
 bd (gc (List.length m) [r43.1] r43.2) fun r44 => some (aN r44))
 (bd (gc (List.length m) [(.aC)] r42.2) fun r45 => some (aN r45)))))
theorem aeA (O : aJ) (t0 : D) (m : Mem) : MB.step2 O [t0] m = kW O t0 m := by kernel_rfl
def Nh (O : aJ) (t0 : D) (m : Mem) : RV :=
 bd (ak .geq [t0, .int .i64 1] m) fun r1 =>
 bd (aG (ay r1.1 true) (bI [t0] r1.2) r1.2) fun r2 =>
 bd (aG (ay r1.1 true) (ak .leq [r2.1, .int .i64 4] r2.2) r2.2) fun r3 =>
 bd (bJ [r1.1, r3.1, .bool false] r3.2) fun r4 =>
 bd (gc (List.length m) [r4.1] r4.2) fun r5 => some (aN r5)
theorem aeB (O : aJ) (t0 : D) (m : Mem) : MC.step2 O [t0] m = Nh O t0 m := by kernel_rfl
def Qy (O : aJ) (t0 t1 : D) (m : Mem) : RV :=
 bd (au O b_ [t1] (m ++ [.free])) fun r2 =>
 bd (au O ng [r2.1] r2.2) fun r3 =>
 bd (au O bM [t1] r3.2) fun r4 =>
 bd (jh [.aO, .aO] [(0, 1), (1, 1)] [r3.1, r4.1] r4.2) fun r5 =>
 bd (je (List.length m) 0 [r5.1] r5.2) fun r6 =>
 bd (kH O iZ [t0, r6.1] r6.2) fun r7 =>
 bd (gc (List.length m) [r7.1] r7.2) fun r8 => some (aN r8)
theorem abj (O : aJ) (t0 t1 : D) (m : Mem) : Gi.step2 O [t0, t1] m = Qy O t0 t1 m := by kernel_rfl
def Yt (O : aJ) (t0 : D) (m : Mem) : RV :=
 bd (ak .eql [t0, .int .i64 0] m) fun r1 =>
 aH r1.1
 (bd (gc (List.length m) [(.aC)] r1.2) fun r2 => some (aN r2))
 (bd (PD jK [t0] r1.2) fun r3 =>
 bd (gc (List.length m) [r3.1] r3.2) fun r4 => some (aN r4))
theorem agC (O : aJ) (t0 : D) (m : Mem) : OM.step2 O [t0] m = Yt O t0 m := by kernel_rfl
def W_ (O : aJ) (t0 : D) (m : Mem) : RV :=
 bd (ak .lss [t0, .int .i64 0] m) fun r1 =>
 aH r1.1
 (bd (LK .u64 [t0] r1.2) fun r2 =>
 bd (WX [r2.1] r2.2) fun r3 =>
 bd (au O fD [r3.1] r3.2) fun r4 =>
 bd (au O eU [.bool true, r4.1] r4.2) fun r5 =>
 bd (gc (List.length m) [r5.1] r5.2) fun r6 => some (aN r6))
 (bd (LK .u64 [t0] r1.2) fun r7 =>
 bd (au O fD [r7.1] r7.2) fun r8 =>
 bd (au O eU [.bool false, r8.1] r8.2) fun r9 =>
 bd (gc (List.length m) [r9.1] r9.2) fun r10 => some (aN r10))
theorem ajO (O : aJ) (t0 : D) (m : Mem) : VW.step2 O [t0] m = W_ O t0 m := by kernel_rfl
def Gw (O : aJ) (t0 t1 : D) (m : Mem) : RV :=
 bd (au O bZ [t0] m) fun r1 =>
 bd (au O bZ [t1] r1.2) fun r2 =>
 bd (ak .mul [r1.1, r2.1] r2.2) fun r3 =>
 bd (ak .lss [r3.1, .int .i64 0] r3.2) fun r4 =>
 bd (au O bf [t0] r4.2) fun r5 =>
 bd (au O bf [t1] r5.2) fun r6 =>
 bd (au O fK [r5.1, r6.1] r6.2) fun r7 =>
 bd (au O eU [r4.1, r7.1] r7.2) fun r8 =>
 bd (gc (List.length m) [r8.1] r8.2) fun r9 => some (aN r9)
theorem aa8 (O : aJ) (t0 t1 : D) (m : Mem) : FX.step2 O [t0, t1] m = Gw O t0 t1 m := by kernel_rfl
def ou (O : aJ) (t0 t1 : D) (m : Mem) : RV :=
 bd (au O bZ [t0] m) fun r1 =>
 bd (ak .lss [r1.1, .int .i64 0] r1.2) fun r2 =>
 bd (au O bZ [t1] r2.2) fun r3 =>
 bd (ak .lss [r3.1, .int .i64 0] r3.2) fun r4 =>
 bd (WV false [r2.1, r4.1] r4.2) fun r5 =>
 aH r5.1
 (bd (au O bf [t0] r5.2) fun r6 =>
 bd (au O bf [t1] r6.2) fun r7 =>
 bd (au O iw [r6.1, r7.1] r7.2) fun r8 =>
 bd (au O eU [r2.1, r8.1] r8.2) fun r9 =>
 bd (gc (List.length m) [r9.1] r9.2) fun r10 => some (aN r10))
 (bd (au O bf [t0] r5.2) fun r11 =>
 bd (au O bf [t1] r11.2) fun r12 =>
 bd (au O jA [r11.1, r12.1] r12.2) fun r13 =>
 bd (ak .lss [r13.1, .int .i64 0] r13.2) fun r14 =>
 aH r14.1
 (bd (au O bf [t1] r14.2) fun r15 =>
 bd (au O bf [t0] r15.2) fun r16 =>
 bd (au O kU [r15.1, r16.1] r16.2) fun r17 =>
 bd (aS 0 [r17.1] r17.2) fun r18 =>
 bd (aS 1 [r17.1] r18.2) fun r19 =>
 bd (au O eU [r4.1, r18.1] r19.2) fun r20 =>
 bd (gc (List.length m) [r20.1] r20.2) fun r21 => some (aN r21))
 (bd (au O bf [t0] r14.2) fun r22 =>
 bd (au O bf [t1] r22.2) fun r23 =>
 bd (au O kU [r22.1, r23.1] r23.2) fun r24 =>
 bd (aS 0 [r24.1] r24.2) fun r25 =>
 bd (aS 1 [r24.1] r25.2) fun r26 =>
 bd (au O eU [r2.1, r25.1] r26.2) fun r27 =>
 bd (gc (List.length m) [r27.1] r27.2) fun r28 => some (aN r28)))
theorem aa6 (O : aJ) (t0 t1 : D) (m : Mem) : FV.step2 O [t0, t1] m = ou O t0 t1 m := by kernel_rfl
def Qu (O : aJ) (t0 : D) (m : Mem) : RV :=
 bd (Bh false [t0, .aO] m) fun r1 =>
 bd (aG (ay r1.1 false) (bI [t0] r1.2) r1.2) fun r2 =>
 bd (aG (ay r1.1 false) (lF [r2.1] r2.2) r2.2) fun r3 =>
 bd (aG (ay r1.1 false) (aK 1 [r3.1] r3.2) r3.2) fun r4 =>
 bd (aG (ay r1.1 false) (aB [r4.1] r4.2) r4.2) fun r5 =>
 bd (aG (ay r1.1 false) (Bh false [r5.1, .aO] r5.2) r5.2) fun r6 =>
 bd (bJ [r1.1, .bool true, r6.1] r6.2) fun r7 =>
 aH r7.1
 (bd (au O gU [.int .i64 1] r7.2) fun r8 =>
 bd (gc (List.length m) [r8.1] r8.2) fun r9 => some (aN r9))
 (bd (lF [t0] r7.2) fun r10 =>
 bd (aK 1 [r10.1] r10.2) fun r11 =>
 bd (aB [r11.1] r11.2) fun r12 =>
 bd (gc (List.length m) [r12.1] r12.2) fun r13 => some (aN r13))
theorem abe (O : aJ) (t0 : D) (m : Mem) : F9.step2 O [t0] m = Qu O t0 m := by kernel_rfl
def Qx (O : aJ) (t0 : D) (m : Mem) : RV :=
 bd (Bh false [t0, .aO] m) fun r1 =>
 bd (aG (ay r1.1 false) (bI [t0] r1.2) r1.2) fun r2 =>
 bd (aG (ay r1.1 false) (lF [r2.1] r2.2) r2.2) fun r3 =>
 bd (aG (ay r1.1 false) (aK 0 [r3.1] r3.2) r3.2) fun r4 =>
 bd (aG (ay r1.1 false) (aB [r4.1] r4.2) r4.2) fun r5 =>
 bd (aG (ay r1.1 false) (Bh false [r5.1, .aO] r5.2) r5.2) fun r6 =>
 bd (bJ [r1.1, .bool true, r6.1] r6.2) fun r7 =>
 aH r7.1
 (bd (au O gU [.int .i64 0] r7.2) fun r8 =>
 bd (gc (List.length m) [r8.1] r8.2) fun r9 => some (aN r9))
 (bd (lF [t0] r7.2) fun r10 =>
 bd (aK 0 [r10.1] r10.2) fun r11 =>
 bd (aB [r11.1] r11.2) fun r12 =>
 bd (gc (List.length m) [r12.1] r12.2) fun r13 => some (aN r13))
theorem abh (O : aJ) (t0 : D) (m : Mem) : Gh.step2 O [t0] m = Qx O t0 m := by kernel_rfl
def x9 (O : aJ) (t0 : D) (m : Mem) : RV :=
 bd (au O bf [t0] m) fun r1 =>
 bd (au O dX [r1.1] r1.2) fun r2 =>
 aH r2.1
 (bd (gc (List.length m) [(.int .i64 0)] r2.2) fun r3 => some (aN r3))
 (bd (lF [t0] r2.2) fun r4 =>
 bd (aK 0 [r4.1] r4.2) fun r5 =>
 bd (aB [r5.1] r5.2) fun r6 =>
 aH r6.1
 (bd (gc (List.length m) [(.int .i64 (-1))] r6.2) fun r7 => some (aN r7))
 (bd (gc (List.length m) [(.int .i64 1)] r6.2) fun r8 => some (aN r8)))
theorem YP (O : aJ) (t0 : D) (m : Mem) : CP.step2 O [t0] m = x9 O t0 m := by kernel_rfl
def TY (O : aJ) (t0 t1 : D) (m : Mem) : RV :=
 bd (au O bZ [t1] m) fun r1 =>
 bd (ak .eql [r1.1, .int .i64 0] r1.2) fun r2 =>
 aH r2.1
 (bd (au O bV [.int .i64 3] r2.2) fun r3 =>
 bd (gc (List.length m) [(.aO), r3.1] r3.2) fun r4 => some (aN r4))
 (bd (au O bf [t0] r2.2) fun r5 =>
 bd (au O bf [t1] r5.2) fun r6 =>
 bd (au O oW [r5.1, r6.1] r6.2) fun r7 =>
 bd (au O bf [t0] r7.2) fun r8 =>
 bd (au O gJ [r8.1, r7.1] r8.2) fun r9 =>
 bd (aS 0 [r9.1] r9.2) fun r10 =>
 bd (aS 1 [r9.1] r10.2) fun r11 =>
 bd (aS 2 [r9.1] r11.2) fun r12 =>
 bd (au O bf [t1] r12.2) fun r13 =>
 bd (au O gJ [r13.1, r7.1] r13.2) fun r14 =>
 bd (aS 0 [r14.1] r14.2) fun r15 =>
 bd (aS 1 [r14.1] r15.2) fun r16 =>
 bd (aS 2 [r14.1] r16.2) fun r17 =>
 bd (au O bZ [t0] (r17.2 ++ [.free])) fun r19 =>
 bd (au O bZ [t1] r19.2) fun r20 =>
 bd (ak .mul [r19.1, r20.1] r20.2) fun r21 =>
 bd (ak .lss [r21.1, .int .i64 0] r21.2) fun r22 =>
 bd (au O eU [r22.1, r10.1] r22.2) fun r23 =>
 bd (au O eU [.bool false, r15.1] r23.2) fun r24 =>
 bd (jh [.aO, .aO] [(0, 1), (1, 1)] [r23.1, r24.1] r24.2) fun r25 =>
 bd (je (List.length r17.2) 0 [r25.1] r25.2) fun r26 =>
 bd (gc (List.length m) [r26.1, (.aC)] r26.2) fun r27 => some (aN r27))
theorem ah5 (O : aJ) (t0 t1 : D) (m : Mem) : Sm.step2 O [t0, t1] m = TY O t0 t1 m := by kernel_rfl
def D7 (O : aJ) (base : Nat) (t2 t3 t4 t14 t77 t78 t79 : D) (m : Mem) : Option (Ex × List D × Mem) :=
 bd (ak .lss [t79, t78] m) fun r1 =>
 aH r1.1
 (bd (bT 2 [t77, t79] (r1.2 ++ [.free])) fun r3 =>
 bd (dh 2 [r3.1] r3.2) fun r4 =>
 bd (gG (List.length r1.2) 0 [.int .i64 0, .int .i64 0] [] r4.2) fun r5 =>
 bd (bD 2 [r5.1, r4.1] r5.2) fun r6 =>
 bd (aK 1 [r5.1] r6.2) fun r7 =>
 bd (aB [r7.1] r7.2) fun r8 =>
 bd (Oc [t3, r8.1] r8.2) fun r9 =>
 bd (aK 0 [r5.1] r9.2) fun r10 =>
 bd (aB [r10.1] r10.2) fun r11 =>
 bd (Yl [t2, r11.1] r11.2) fun r12 =>
 bd (ak .sub [r9.1, r12.1] r12.2) fun r13 =>
 bd (Yl [r13.1, .int .i64 0] r13.2) fun r14 =>
 bd (aK 2 [t4] r14.2) fun r15 =>
 bd (aB [r15.1] r15.2) fun r16 =>
 bd (aK 1 [r5.1] r16.2) fun r17 =>
 bd (aB [r17.1] r17.2) fun r18 =>
 bd (aK 0 [r5.1] r18.2) fun r19 =>
 bd (aB [r19.1] r19.2) fun r20 =>
 bd (ak .sub [r18.1, r20.1] r20.2) fun r21 =>
 bd (ak .mul [r16.1, r21.1] r21.2) fun r22 =>
 bd (au O iD [r14.1, r22.1] r22.2) fun r23 =>
 bd (aS 0 [r23.1] r23.2) fun r24 =>
 bd (aS 1 [r23.1] r24.2) fun r25 =>
 bd (au O iZ [t14, r24.1] r25.2) fun r26 =>
 bd (ak .add [t79, .int .i64 1] r26.2) fun r27 =>
 bd (gc base [t2, t3, t4, r26.1, t77, t78, r27.1] r27.2) fun r28 => O.loop [2, 3, 4, 14, 77, 78, 79] [14] wW base r28.1 r28.2)
 (bd (gc base [t14] r1.2) fun r29 => some ((.exit 0), r29.1, r29.2))
theorem Nv (O : aJ) (base : Nat) (t2 t3 t4 t14 t77 t78 t79 : D) (m : Mem) : bY O [2, 3, 4, 14, 77, 78, 79] [14] wW base [t2, t3, t4, t14, t77, t78, t79] m = D7 O base t2 t3 t4 t14 t77 t78 t79 m := by kernel_rfl
def kX (O : aJ) (t0 t1 t2 t3 : D) (m : Mem) : RV :=
 bd (je (List.length m) 0 [t0] (m ++ [.free, .free])) fun r2 =>
 bd (je (List.length m) 1 [t1] r2.2) fun r3 =>
 bd (dh 9 [r2.1] r3.2) fun r4 =>
 bd (au O fV [r4.1] r4.2) fun r5 =>
 bd (aS 0 [r5.1] r5.2) fun r6 =>
 bd (aS 1 [r5.1] r6.2) fun r7 =>
 bd (iH true true [r7.1, .aC] r7.2) fun r8 =>
 aH r8.1
 (bd (gc (List.length m) [(.aO), r7.1] r8.2) fun r9 => some (aN r9))
 (bd (aK 5 [r2.1] r8.2) fun r10 =>
 bd (aB [r10.1] r10.2) fun r11 =>
 bd (ak .eql [r11.1, .int .i64 4] r11.2) fun r12 =>
 jn (aH r12.1
 (bd (dh 9 [r2.1] r12.2) fun r13 =>
 bd (dh 2 [r3.1] r13.2) fun r14 =>
 bd (au O yM [r13.1, r14.1] r14.2) fun r15 =>
 bd (aS 0 [r15.1] r15.2) fun r16 =>
 bd (aS 1 [r15.1] r16.2) fun r17 =>
 bd (iH true true [r17.1, .aC] r17.2) fun r18 =>
 aH r18.1
 (some (.ret, [t2, t3, r2.1, r3.1, (.aO), r17.1, r16.1], r18.2))
 (some (.normal, [t2, t3, r2.1, r3.1, (.aO), (.aC), r16.1], r18.2)))
 (some (.normal, [t2, t3, r2.1, r3.1, (.aO), (.aC), (.sl 0 [])], r12.2))) fun r19 =>
 dR r19.1
 (bd (aK 0 [(hd (tl (tl (tl r19.2.1))))] r19.2.2) fun r21 =>
 bd (aB [r21.1] r21.2) fun r22 =>
 bd (ak .lss [(hd r19.2.1), r22.1] r22.2) fun r23 =>
 bd (aG (ay r23.1 false) (bI [(hd (tl r19.2.1))] r23.2) r23.2) fun r24 =>
 bd (aG (ay r23.1 false) (bI [(hd r19.2.1)] r24.2) r24.2) fun r25 =>
 bd (aG (ay r23.1 false) (ak .lss [r24.1, r25.1] r25.2) r25.2) fun r26 =>
 bd (bJ [r23.1, .bool true, r26.1] r26.2) fun r27 =>
 bd (aG (ay r27.1 false) (aK 1 [(hd (tl (tl (tl r19.2.1))))] r27.2) r27.2) fun r28 =>
 bd (aG (ay r27.1 false) (aB [r28.1] r28.2) r28.2) fun r29 =>
 bd (aG (ay r27.1 false) (bI [(hd (tl r19.2.1))] r29.2) r29.2) fun r30 =>
 bd (aG (ay r27.1 false) (ak .lss [r29.1, r30.1] r30.2) r30.2) fun r31 =>
 bd (bJ [r27.1, .bool true, r31.1] r31.2) fun r32 =>
 aH r32.1
 (bd (au O bV [.int .i64 6] r32.2) fun r33 =>
 bd (gc (List.length m) [(.aO), r33.1] r33.2) fun r34 => some (aN r34))
 (bd (aK 5 [(hd (tl (tl r19.2.1)))] r32.2) fun r35 =>
 bd (aB [r35.1] r35.2) fun r36 =>
 bd (ak .neq [r36.1, .int .i64 4] r36.2) fun r37 =>
 aH r37.1
 (bd (aK 5 [(hd (tl (tl r19.2.1)))] r37.2) fun r38 =>
 bd (aB [r38.1] r38.2) fun r39 =>
 bd (aK 0 [(hd (tl (tl (tl r19.2.1))))] r39.2) fun r40 =>
 bd (aB [r40.1] r40.2) fun r41 =>
 bd (aK 1 [(hd (tl (tl (tl r19.2.1))))] r41.2) fun r42 =>
 bd (aB [r42.1] r42.2) fun r43 =>
 bd (aK 2 [(hd (tl (tl r19.2.1)))] r43.2) fun r44 =>
 bd (aB [r44.1] r44.2) fun r45 =>
 bd (au O uq [r39.1, (hd r19.2.1), (hd (tl r19.2.1)), r41.1, r43.1, r45.1] r45.2) fun r46 =>
 bd (aS 0 [r46.1] r46.2) fun r47 =>
 bd (aS 1 [r46.1] r47.2) fun r48 =>
 bd (gc (List.length m) [r47.1, r48.1] r48.2) fun r49 => some (aN r49))
 (bd (au O iD [.int .i64 0, .int .i64 1] r37.2) fun r50 =>
 bd (aS 0 [r50.1] r50.2) fun r51 =>
 bd (aS 1 [r50.1] r51.2) fun r52 =>
 bd (cZ [(hd (tl (tl (tl (tl (tl (tl r19.2.1)))))))] r52.2) fun r53 =>
 jn (O.loop [2, 3, 4, 14, 77, 78, 79] [14] wW (List.length r53.2) [(hd r19.2.1), (hd (tl r19.2.1)), (hd (tl (tl r19.2.1))), r51.1, (hd (tl (tl (tl (tl (tl (tl r19.2.1))))))), r53.1, (.int .i64 0)] r53.2) fun r54 =>
 dR (dL 0 r54.1)
 (bd (gc (List.length m) [(hd r54.2.1), (.aC)] r54.2.2) fun r56 => some (aN r56))
 (fun i55 => none)
 (none))))
 (fun i20 => none)
 (bd (gc (List.length m) [(hd (tl (tl (tl (tl r19.2.1))))), (hd (tl (tl (tl (tl (tl r19.2.1))))))] r19.2.2) fun r57 => some (aN r57)))
theorem L6 (O : aJ) (t0 t1 t2 t3 : D) (m : Mem) : MH.step2 O [t0, t1, t2, t3] m = kX O t0 t1 t2 t3 m := by kernel_rfl
def Qv (O : aJ) (t0 t1 : D) (m : Mem) : RV :=
 bd (au O b_ [t0] m) fun r1 =>
 bd (au O bM [t1] r1.2) fun r2 =>
 bd (au O bU [r1.1, r2.1] r2.2) fun r3 =>
 bd (au O bM [t0] r3.2) fun r4 =>
 bd (au O b_ [t1] r4.2) fun r5 =>
 bd (au O bU [r4.1, r5.1] r5.2) fun r6 =>
 bd (au O kJ [r3.1, r6.1] r6.2) fun r7 =>
 bd (aS 0 [r7.1] r7.2) fun r8 =>
 bd (aS 1 [r7.1] r8.2) fun r9 =>
 bd (gc (List.length m) [r8.1, r9.1] r9.2) fun r10 => some (aN r10)
theorem abf (O : aJ) (t0 t1 : D) (m : Mem) : Gf.step2 O [t0, t1] m = Qv O t0 t1 m := by kernel_rfl
def aee (O : aJ) (t0 t1 : D) (m : Mem) : RV :=
 bd (au O gU [t0] m) fun r1 =>
 bd (au O gU [t1] r1.2) fun r2 =>
 bd (au O kJ [r1.1, r2.1] r2.2) fun r3 =>
 bd (aS 0 [r3.1] r3.2) fun r4 =>
 bd (aS 1 [r3.1] r4.2) fun r5 =>
 bd (gc (List.length m) [r4.1, r5.1] r5.2) fun r6 => some (aN r6)
theorem ajP (O : aJ) (t0 t1 : D) (m : Mem) : VX.step2 O [t0, t1] m = aee O t0 t1 m := by kernel_rfl
def Qw (O : aJ) (t0 t1 : D) (m : Mem) : RV :=
 bd (au O b_ [t0] m) fun r1 =>
 bd (au O b_ [t1] r1.2) fun r2 =>
 bd (au O bU [r1.1, r2.1] r2.2) fun r3 =>
 bd (au O bM [t0] r3.2) fun r4 =>
 bd (au O bM [t1] r4.2) fun r5 =>
 bd (au O bU [r4.1, r5.1] r5.2) fun r6 =>
 bd (au O qg [r3.1, r6.1] r6.2) fun r7 =>
 bd (gc (List.length m) [r7.1] r7.2) fun r8 => some (aN r8)
theorem abg (O : aJ) (t0 t1 : D) (m : Mem) : Gg.step2 O [t0, t1] m = Qw O t0 t1 m := by kernel_rfl
end Go.Ev.Code
end
section
namespace Go.Ev.Code
open Go Go.Ev
set_option maxRecDepth 100000
def Eb (O : aJ) (t0 : D) (m : Mem) : RV :=
 bd (au O bZ [t0] m) fun r1 =>
 bd (ak .lss [r1.1, .int .i64 0] r1.2) fun r2 =>
 aH r2.1
 (bd (au O bf [t0] r2.2) fun r3 =>
 bd (au O iQ [r3.1] r3.2) fun r4 =>
 bd (kM .add [.str [45], r4.1] r4.2) fun r5 =>
 bd (gc (List.length m) [r5.1] r5.2) fun r6 => some (aN r6))
 (bd (au O bf [t0] r2.2) fun r7 =>
 bd (au O iQ [r7.1] r7.2) fun r8 =>
 bd (gc (List.length m) [r8.1] r8.2) fun r9 => some (aN r9))
theorem YQ (O : aJ) (t0 : D) (m : Mem) : CQ.step2 O [t0] m = Eb O t0 m := by kernel_rfl
def aaz (O : aJ) (t0 : D) (m : Mem) : RV :=
 bd (au O iD [t0, .int .i64 1] m) fun r1 =>
 bd (aS 0 [r1.1] r1.2) fun r2 =>
 bd (aS 1 [r1.1] r2.2) fun r3 =>
 bd (gc (List.length m) [r2.1] r3.2) fun r4 => some (aN r4)
theorem ahY (O : aJ) (t0 : D) (m : Mem) : RN.step2 O [t0] m = aaz O t0 m := by kernel_rfl
def JH (O : aJ) (t0 : D) (m : Mem) : RV :=
 bd (au O vM [t0] m) fun r1 =>
 bd (aS 0 [r1.1] r1.2) fun r2 =>
 bd (aS 1 [r1.1] r2.2) fun r3 =>
 bd (aS 2 [r1.1] r3.2) fun r4 =>
 bd (ak .leq [r3.1, .int .i64 6] r4.2) fun r5 =>
 bd (gc (List.length m) [r2.1, r5.1, r4.1] r5.2) fun r6 => some (aN r6)
theorem acz (O : aJ) (t0 : D) (m : Mem) : IV.step2 O [t0] m = JH O t0 m := by kernel_rfl
def E5 (O : aJ) (t0 : D) (m : Mem) : RV :=
 bd (au O kC [t0] m) fun r1 =>
 aH r1.1
 (bd (gc (List.length m) [(.int .i64 366)] r1.2) fun r2 => some (aN r2))
 (bd (gc (List.length m) [(.int .i64 365)] r1.2) fun r3 => some (aN r3))
theorem Ri (O : aJ) (t0 : D) (m : Mem) : wV.step2 O [t0] m = E5 O t0 m := by kernel_rfl
def rG (O : aJ) (t0 : D) (m : Mem) : RV :=
 bd (ak .rem [t0, .int .i64 4] m) fun r1 =>
 bd (ak .eql [r1.1, .int .i64 0] r1.2) fun r2 =>
 bd (aG (ay r2.1 true) (bI [t0] r2.2) r2.2) fun r3 =>
 bd (aG (ay r2.1 true) (ak .rem [r3.1, .int .i64 100] r3.2) r3.2) fun r4 =>
 bd (aG (ay r2.1 true) (ak .neq [r4.1, .int .i64 0] r4.2) r4.2) fun r5 =>
 bd (aG (ay r2.1 true) (bI [r5.1] r5.2) r5.2) fun r6 =>
 bd (aG (ay r6.1 false) (bI [t0] r6.2) r6.2) fun r7 =>
 bd (aG (ay r6.1 false) (ak .rem [r7.1, .int .i64 400] r7.2) r7.2) fun r8 =>
 bd (aG (ay r6.1 false) (ak .eql [r8.1, .int .i64 0] r8.2) r8.2) fun r9 =>
 bd (aG (ay r2.1 true) (bJ [r6.1, .bool true, r9.1] r9.2) r9.2) fun r10 =>
 bd (bJ [r2.1, r10.1, .bool false] r10.2) fun r11 =>
 bd (gc (List.length m) [r11.1] r11.2) fun r12 => some (aN r12)
theorem Rh (O : aJ) (t0 : D) (m : Mem) : wU.step2 O [t0] m = rG O t0 m := by kernel_rfl
def Gy (O : aJ) (t0 t1 : D) (m : Mem) : RV :=
 bd (je (List.length m) 0 [t0] (m ++ [.free])) fun r2 =>
 bd (aK 1 [r2.1] r2.2) fun r3 =>
 bd (aB [r3.1] r3.2) fun r4 =>
 bd (WX [t1] r4.2) fun r5 =>
 bd (dh 9 [r2.1] r5.2) fun r6 =>
 bd (au O jy [r6.1] r6.2) fun r7 =>
 bd (ak .mul [r5.1, r7.1] r7.2) fun r8 =>
 bd (aK 7 [r2.1] r8.2) fun r9 =>
 bd (aB [r9.1] r9.2) fun r10 =>
 bd (au O lN [r4.1, r8.1, r10.1] r10.2) fun r11 =>
 bd (aS 0 [r11.1] r11.2) fun r12 =>
 bd (aS 1 [r11.1] r12.2) fun r13 =>
 bd (iH false true [r13.1, .aC] r13.2) fun r14 =>
 bd (gc (List.length m) [r12.1, r14.1] r14.2) fun r15 => some (aN r15)
theorem aa' (O : aJ) (t0 t1 : D) (m : Mem) : F6.step2 O [t0, t1] m = Gy O t0 t1 m := by kernel_rfl
def nV (O : aJ) (base : Nat) (t1 t2 t6 : D) (m : Mem) : Option (Ex × List D × Mem) :=
 bd (dh 9 [t2] m) fun r1 =>
 bd (au O nC [r1.1, t6] r1.2) fun r2 =>
 bd (aS 0 [r2.1] r2.2) fun r3 =>
 bd (aS 1 [r2.1] r3.2) fun r4 =>
 bd (iI [r4.1] r4.2) fun r5 =>
 bd (aG (ay r5.1 false) (bI [r3.1] r5.2) r5.2) fun r6 =>
 bd (aG (ay r5.1 false) (bI [t1] r6.2) r6.2) fun r7 =>
 bd (aG (ay r5.1 false) (ak .lss [r6.1, r7.1] r7.2) r7.2) fun r8 =>
 bd (bJ [r5.1, .bool true, r8.1] r8.2) fun r9 =>
 aH r9.1
 (bd (gc base [(.int .i64 0), (.bool false)] r9.2) fun r10 => some (.ret, r10.1, r10.2))
 (bd (ak .eql [r3.1, t1] r9.2) fun r11 =>
 aH r11.1
 (bd (gc base [t6, (.bool true)] r11.2) fun r12 => some (.ret, r12.1, r12.2))
 (bd (ak .add [t6, .int .i64 1] r11.2) fun r13 =>
 bd (gc base [t1, t2, r13.1] r13.2) fun r14 => O.loop [1, 2, 6] [4, 5] qR base r14.1 r14.2))
theorem Xk (O : aJ) (base : Nat) (t1 t2 t6 : D) (m : Mem) : bY O [1, 2, 6] [4, 5] qR base [t1, t2, t6] m = nV O base t1 t2 t6 m := by kernel_rfl
def JR (O : aJ) (t0 t1 : D) (m : Mem) : RV :=
 bd (je (List.length m) 0 [t0] (m ++ [.free])) fun r2 =>
 jn (O.loop [1, 2, 6] [4, 5] qR (List.length r2.2) [t1, r2.1, (.int .i64 0)] r2.2) fun r3 =>
 dR (dL 0 r3.1)
 (bd (gc (List.length m) [(hd r3.2.1), (hd (tl r3.2.1))] r3.2.2) fun r5 => some (aN r5))
 (fun i4 => none)
 (bd (gc (List.length m) [(hd r3.2.1), (hd (tl r3.2.1))] r3.2.2) fun r6 => some (aN r6))
theorem acF (O : aJ) (t0 t1 : D) (m : Mem) : I7.step2 O [t0, t1] m = JR O t0 t1 m := by kernel_rfl
def Qj (O : aJ) (t0 : D) (m : Mem) : RV :=
 bd (ak .sub [t0, .int .i64 1] m) fun r1 =>
 bd (ak .sub [t0, .int .i64 1900] r1.2) fun r2 =>
 bd (ak .mul [.int .i64 365, r2.1] r2.2) fun r3 =>
 bd (ak .quo [r1.1, .int .i64 4] r3.2) fun r4 =>
 bd (ak .quo [r1.1, .int .i64 100] r4.2) fun r5 =>
 bd (ak .sub [r4.1, r5.1] r5.2) fun r6 =>
 bd (ak .quo [r1.1, .int .i64 400] r6.2) fun r7 =>
 bd (ak .add [r6.1, r7.1] r7.2) fun r8 =>
 bd (ak .add [r3.1, r8.1] r8.2) fun r9 =>
 bd (ak .quo [(.int .i64 1899), .int .i64 4] r9.2) fun r10 =>
 bd (ak .quo [(.int .i64 1899), .int .i64 100] r10.2) fun r11 =>
 bd (ak .sub [r10.1, r11.1] r11.2) fun r12 =>
 bd (ak .quo [(.int .i64 1899), .int .i64 400] r12.2) fun r13 =>
 bd (ak .add [r12.1, r13.1] r13.2) fun r14 =>
 bd (ak .sub [r9.1, r14.1] r14.2) fun r15 =>
 bd (gc (List.length m) [r15.1] r15.2) fun r16 => some (aN r16)
theorem aaV (O : aJ) (t0 : D) (m : Mem) : Fv.step2 O [t0] m = Qj O t0 m := by kernel_rfl
def yY (O : aJ) (t0 : D) (m : Mem) : RV :=
 bd (ak .rem [t0, .int .i64 4] m) fun r1 =>
 bd (ak .eql [r1.1, .int .i64 0] r1.2) fun r2 =>
 bd (aG (ay r2.1 true) (bI [t0] r2.2) r2.2) fun r3 =>
 bd (aG (ay r2.1 true) (ak .rem [r3.1, .int .i64 100] r3.2) r3.2) fun r4 =>
 bd (aG (ay r2.1 true) (ak .neq [r4.1, .int .i64 0] r4.2) r4.2) fun r5 =>
 bd (aG (ay r2.1 true) (bI [r5.1] r5.2) r5.2) fun r6 =>
 bd (aG (ay r6.1 false) (bI [t0] r6.2) r6.2) fun r7 =>
 bd (aG (ay r6.1 false) (ak .rem [r7.1, .int .i64 400] r7.2) r7.2) fun r8 =>
 bd (aG (ay r6.1 false) (ak .eql [r8.1, .int .i64 0] r8.2) r8.2) fun r9 =>
 bd (aG (ay r2.1 true) (bJ [r6.1, .bool true, r9.1] r9.2) r9.2) fun r10 =>
 bd (bJ [r2.1, r10.1, .bool false] r10.2) fun r11 =>
 bd (gc (List.length m) [r11.1] r11.2) fun r12 => some (aN r12)
theorem aeC (O : aJ) (t0 : D) (m : Mem) : MF.step2 O [t0] m = yY O t0 m := by kernel_rfl
def TU (O : aJ) (t0 : D) (m : Mem) : RV :=
 bd (ak .geq [t0, .int .i64 0] m) fun r1 =>
 bd (aG (ay r1.1 true) (bI [t0] r1.2) r1.2) fun r2 =>
 bd (aG (ay r1.1 true) (ak .leq [r2.1, .int .i64 109572] r2.2) r2.2) fun r3 =>
 bd (bJ [r1.1, r3.1, .bool false] r3.2) fun r4 =>
 bd (gc (List.length m) [r4.1] r4.2) fun r5 => some (aN r5)
theorem ah0 (O : aJ) (t0 : D) (m : Mem) : RS.step2 O [t0] m = TU O t0 m := by kernel_rfl
def Qq (O : aJ) (t0 t1 : D) (m : Mem) : RV :=
 bd (au O rV [t0, t1] m) fun r1 =>
 bd (au O bZ [r1.1] r1.2) fun r2 =>
 bd (gc (List.length m) [r2.1] r2.2) fun r3 => some (aN r3)
theorem aa7 (O : aJ) (t0 t1 : D) (m : Mem) : FW.step2 O [t0, t1] m = Qq O t0 t1 m := by kernel_rfl
def Yy (O : aJ) (t0 t1 : D) (m : Mem) : RV :=
 bd (au O kJ [t0, t1] m) fun r1 =>
 bd (aS 0 [r1.1] r1.2) fun r2 =>
 bd (aS 1 [r1.1] r2.2) fun r3 =>
 bd (gc (List.length m) [r2.1] r3.2) fun r4 => some (aN r4)
theorem agI (O : aJ) (t0 t1 : D) (m : Mem) : OY.step2 O [t0, t1] m = Yy O t0 t1 m := by kernel_rfl
def D6 (O : aJ) (t0 : D) (m : Mem) : RV :=
 bd (au O Cj [t0] m) fun r1 =>
 bd (iI [r1.1] r1.2) fun r2 =>
 aH r2.1
 (bd (gc (List.length m) [(.int .i64 (-1))] r2.2) fun r3 => some (aN r3))
 (bd (ak .add [t0, .int .i64 1] r2.2) fun r4 =>
 bd (ak .rem [r4.1, .int .i64 7] r4.2) fun r5 =>
 bd (gc (List.length m) [r5.1] r5.2) fun r6 => some (aN r6))
theorem YL (O : aJ) (t0 : D) (m : Mem) : CB.step2 O [t0] m = D6 O t0 m := by kernel_rfl
def kY (O : aJ) (t0 t1 t2 : D) (m : Mem) : RV :=
 bd (au O eG [t0] (m ++ [.free])) fun r2 =>
 bd (aS 0 [r2.1] r2.2) fun r3 =>
 bd (aS 1 [r2.1] r3.2) fun r4 =>
 bd (gG (List.length m) 0 [.int .i64 0, .int .i64 0, .int .i64 0] [] r4.2) fun r5 =>
 bd (bD 3 [r5.1, r3.1] r5.2) fun r6 =>
 bd (iH true true [r4.1, .aC] r6.2) fun r7 =>
 aH r7.1
 (bd (gc (List.length m) [(.int .i64 0), r4.1] r7.2) fun r8 => some (aN r8))
 (bd (ak .lss [t1, .int .i64 (-3600)] r7.2) fun r9 =>
 bd (aG (ay r9.1 false) (bI [t1] r9.2) r9.2) fun r10 =>
 bd (aG (ay r9.1 false) (ak .gtr [r10.1, .int .i64 3600] r10.2) r10.2) fun r11 =>
 bd (bJ [r9.1, .bool true, r11.1] r11.2) fun r12 =>
 aH r12.1
 (bd (au O bV [.int .i64 4] r12.2) fun r13 =>
 bd (gc (List.length m) [(.int .i64 0), r13.1] r13.2) fun r14 => some (aN r14))
 (bd (aK 0 [r5.1] r12.2) fun r15 =>
 bd (aB [r15.1] r15.2) fun r16 =>
 bd (ak .mul [r16.1, .int .i64 12] r16.2) fun r17 =>
 bd (aK 1 [r5.1] r17.2) fun r18 =>
 bd (aB [r18.1] r18.2) fun r19 =>
 bd (ak .add [r17.1, r19.1] r19.2) fun r20 =>
 bd (ak .sub [r20.1, .int .i64 1] r20.2) fun r21 =>
 bd (ak .add [r21.1, t1] r21.2) fun r22 =>
 bd (ak .quo [r22.1, .int .i64 12] r22.2) fun r23 =>
 bd (ak .rem [r22.1, .int .i64 12] r23.2) fun r24 =>
 bd (ak .add [r24.1, .int .i64 1] r24.2) fun r25 =>
 bd (aG (ay t2 true) (bI [t0] r25.2) r25.2) fun r26 =>
 bd (aG (ay t2 true) (au O mZ [r26.1] r26.2) r26.2) fun r27 =>
 bd (bJ [t2, r27.1, .bool false] r27.2) fun r28 =>
 aH r28.1
 (bd (au O tZ [r23.1, r25.1] r28.2) fun r29 =>
 bd (aS 0 [r29.1] r29.2) fun r30 =>
 bd (aS 1 [r29.1] r30.2) fun r31 =>
 bd (gc (List.length m) [r30.1, r31.1] r31.2) fun r32 => some (aN r32))
 (bd (aK 2 [r5.1] r28.2) fun r33 =>
 bd (aB [r33.1] r33.2) fun r34 =>
 bd (au O fF [r23.1, r25.1] r34.2) fun r35 =>
 bd (Oc [r34.1, r35.1] r35.2) fun r36 =>
 bd (jh [.int .i64 0, .int .i64 0, .int .i64 0] [(0, 1), (1, 1), (2, 1)] [r23.1, r25.1, r36.1] r36.2) fun r37 =>
 bd (au O pF [r37.1] r37.2) fun r38 =>
 bd (aS 0 [r38.1] r38.2) fun r39 =>
 bd (aS 1 [r38.1] r39.2) fun r40 =>
 bd (gc (List.length m) [r39.1, r40.1] r40.2) fun r41 => some (aN r41))))
theorem vG (O : aJ) (t0 t1 t2 : D) (m : Mem) : MI.step2 O [t0, t1, t2] m = kY O t0 t1 t2 m := by kernel_rfl
def Qs (O : aJ) (t0 t1 : D) (m : Mem) : RV :=
 bd (au O b_ [t0] m) fun r1 =>
 bd (au O bM [t1] r1.2) fun r2 =>
 bd (au O bU [r1.1, r2.1] r2.2) fun r3 =>
 bd (au O b_ [t1] r3.2) fun r4 =>
 bd (au O bM [t0] r4.2) fun r5 =>
 bd (au O bU [r4.1, r5.1] r5.2) fun r6 =>
 bd (au O m_ [r3.1, r6.1] r6.2) fun r7 =>
 bd (gc (List.length m) [r7.1] r7.2) fun r8 => some (aN r8)
theorem abd (O : aJ) (t0 t1 : D) (m : Mem) : F8.step2 O [t0, t1] m = Qs O t0 t1 m := by kernel_rfl
def Gx (O : aJ) (t0 : D) (m : Mem) : RV :=
 bd (au O bZ [t0] m) fun r1 =>
 bd (ak .geq [r1.1, .int .i64 0] r1.2) fun r2 =>
 bd (au O bf [t0] r2.2) fun r3 =>
 bd (au O eU [r2.1, r3.1] r3.2) fun r4 =>
 bd (gc (List.length m) [r4.1] r4.2) fun r5 => some (aN r5)
theorem aa9 (O : aJ) (t0 : D) (m : Mem) : FY.step2 O [t0] m = Gx O t0 m := by kernel_rfl
def LY (O : aJ) (t0 t1 : D) (m : Mem) : RV :=
 bd (aG (ay t0 true) (bI [t1] (m ++ [.free])) (m ++ [.free])) fun r2 =>
 bd (aG (ay t0 true) (au O dX [r2.1] r2.2) r2.2) fun r3 =>
 bd (aG (ay t0 true) (iI [r3.1] r3.2) r3.2) fun r4 =>
 bd (bJ [t0, r4.1, .bool false] r4.2) fun r5 =>
 bd (jh [.bool false, .aO] [(0, 1), (1, 1)] [r5.1, t1] r5.2) fun r6 =>
 bd (je (List.length m) 0 [r6.1] r6.2) fun r7 =>
 bd (gc (List.length m) [r7.1] r7.2) fun r8 => some (aN r8)
theorem ah4 (O : aJ) (t0 t1 : D) (m : Mem) : Sj.step2 O [t0, t1] m = LY O t0 t1 m := by kernel_rfl
def aed (O : aJ) (t0 : D) (m : Mem) : RV :=
 bd (DW 1 [.int .u64 0] [(0, 1)] [t0] m) fun r1 =>
 bd (au O dK [r1.1] r1.2) fun r2 =>
 bd (gc (List.length m) [r2.1] r2.2) fun r3 => some (aN r3)
theorem ajN (O : aJ) (t0 : D) (m : Mem) : VU.step2 O [t0] m = aed O t0 m := by kernel_rfl
def Qp (O : aJ) (t0 : D) (m : Mem) : RV :=
 bd (Bh false [t0, .aO] m) fun r1 =>
 bd (aG (ay r1.1 false) (bI [t0] r1.2) r1.2) fun r2 =>
 bd (aG (ay r1.1 false) (lF [r2.1] r2.2) r2.2) fun r3 =>
 bd (aG (ay r1.1 false) (aK 1 [r3.1] r3.2) r3.2) fun r4 =>
 bd (aG (ay r1.1 false) (aB [r4.1] r4.2) r4.2) fun r5 =>
 bd (aG (ay r1.1 false) (Bh false [r5.1, .aO] r5.2) r5.2) fun r6 =>
 bd (bJ [r1.1, .bool true, r6.1] r6.2) fun r7 =>
 aH r7.1
 (bd (au O fD [.int .u64 0] r7.2) fun r8 =>
 bd (gc (List.length m) [r8.1] r8.2) fun r9 => some (aN r9))
 (bd (lF [t0] r7.2) fun r10 =>
 bd (aK 1 [r10.1] r10.2) fun r11 =>
 bd (aB [r11.1] r11.2) fun r12 =>
 bd (gc (List.length m) [r12.1] r12.2) fun r13 => some (aN r13))
theorem aa5 (O : aJ) (t0 : D) (m : Mem) : FU.step2 O [t0] m = Qp O t0 m := by kernel_rfl
def zY (O : aJ) (base : Nat) (t6 t7 t8 t9 t10 t26 t27 t28 t33 t34 t35 : D) (m : Mem) : Option (Ex × List D × Mem) :=
 bd (ak .lss [t35, t34] m) fun r1 =>
 aH r1.1
 (bd (bT 1 [t33, t35] r1.2) fun r2 =>
 bd (aB [r2.1] r2.2) fun r3 =>
 bd (au O bits_Mul64 [t9, r3.1] r3.2) fun r4 =>
 bd (aS 0 [r4.1] r4.2) fun r5 =>
 bd (aS 1 [r4.1] r5.2) fun r6 =>
 bd (ak .add [t8, t35] r6.2) fun r7 =>
 bd (bT 1 [t7, r7.1] r7.2) fun r8 =>
 bd (aB [r8.1] r8.2) fun r9 =>
 bd (au O bits_Add64 [r6.1, r9.1, .int .u64 0] r9.2) fun r10 =>
 bd (aS 0 [r10.1] r10.2) fun r11 =>
 bd (aS 1 [r10.1] r11.2) fun r12 =>
 bd (ak .add [r5.1, r12.1] r12.2) fun r13 =>
 bd (au O bits_Add64 [r11.1, t10, .int .u64 0] r13.2) fun r14 =>
 bd (aS 0 [r14.1] r14.2) fun r15 =>
 bd (aS 1 [r14.1] r15.2) fun r16 =>
 bd (ak .add [t8, t35] r16.2) fun r17 =>
 bd (ak .add [r13.1, r16.1] r17.2) fun r18 =>
 bd (bT 1 [t7, r17.1] r18.2) fun r19 =>
 bd (bD 1 [r19.1, r15.1] r19.2) fun r20 =>
 bd (ak .add [t35, .int .i64 1] r20.2) fun r21 =>
 bd (gc base [t6, t7, t8, t9, r18.1, t26, t27, t28, t33, t34, r21.1] r21.2) fun r22 => O.loop [6, 7, 8, 9, 10, 26, 27, 28, 33, 34, 35] [6, 7, 8, 10, 26, 27, 28] sZ base r22.1 r22.2)
 (bd (gc base [t6, t7, t8, t10, t26, t27, t28] r1.2) fun r23 => some ((.exit 2), r23.1, r23.2))
theorem Ia (O : aJ) (base : Nat) (t6 t7 t8 t9 t10 t26 t27 t28 t33 t34 t35 : D) (m : Mem) : bY O [6, 7, 8, 9, 10, 26, 27, 28, 33, 34, 35] [6, 7, 8, 10, 26, 27, 28] sZ base [t6, t7, t8, t9, t10, t26, t27, t28, t33, t34, t35] m = zY O base t6 t7 t8 t9 t10 t26 t27 t28 t33 t34 t35 m := by kernel_rfl
def zZ (O : aJ) (base : Nat) (t6 t7 t26 t27 t28 : D) (m : Mem) : Option (Ex × List D × Mem) :=
 bd (ak .lss [t28, t27] m) fun r1 =>
 aH r1.1
 (bd (bT 1 [t26, t28] r1.2) fun r2 =>
 bd (aB [r2.1] r2.2) fun r3 =>
 bd (cZ [t6] r3.2) fun r4 =>
 jn (O.loop [6, 7, 8, 9, 10, 26, 27, 28, 33, 34, 35] [6, 7, 8, 10, 26, 27, 28] sZ (List.length r4.2) [t6, t7, t28, r3.1, (.int .u64 0), t26, t27, t28, t6, r4.1, (.int .i64 0)] r4.2) fun r5 =>
 dR (dL 2 r5.1)
 (bd (cZ [(hd r5.2.1)] r5.2.2) fun r7 =>
 bd (ak .add [(hd (tl (tl r5.2.1))), r7.1] r7.2) fun r8 =>
 bd (bT 1 [(hd (tl r5.2.1)), r8.1] r8.2) fun r9 =>
 bd (bD 1 [r9.1, (hd (tl (tl (tl r5.2.1))))] r9.2) fun r10 =>
 bd (ak .add [(hd (tl (tl (tl (tl (tl (tl r5.2.1))))))), .int .i64 1] r10.2) fun r11 =>
 bd (gc base [(hd r5.2.1), (hd (tl r5.2.1)), (hd (tl (tl (tl (tl r5.2.1))))), (hd (tl (tl (tl (tl (tl r5.2.1)))))), r11.1] r11.2) fun r12 => O.loop [6, 7, 26, 27, 28] [7] pJ base r12.1 r12.2)
 (fun i6 => dR (dL 1 (.exit i6))
 (bd (ak .add [(hd (tl (tl (tl (tl (tl (tl r5.2.1))))))), .int .i64 1] r5.2.2) fun r14 =>
 bd (gc base [(hd r5.2.1), (hd (tl r5.2.1)), (hd (tl (tl (tl (tl r5.2.1))))), (hd (tl (tl (tl (tl (tl r5.2.1)))))), r14.1] r14.2) fun r15 => O.loop [6, 7, 26, 27, 28] [7] pJ base r15.1 r15.2)
 (fun i13 => bd (gc base [(hd (tl r5.2.1))] r5.2.2) fun r16 => some ((.exit i13), r16.1, r16.2))
 (bd (gc base [(hd (tl r5.2.1))] r5.2.2) fun r17 => some (.ret, r17.1, r17.2)))
 (bd (gc base [(hd (tl r5.2.1))] r5.2.2) fun r18 => some (.ret, r18.1, r18.2)))
 (bd (gc base [t7] r1.2) fun r19 => some ((.exit 0), r19.1, r19.2))
theorem Ib (O : aJ) (base : Nat) (t6 t7 t26 t27 t28 : D) (m : Mem) : bY O [6, 7, 26, 27, 28] [7] pJ base [t6, t7, t26, t27, t28] m = zZ O base t6 t7 t26 t27 t28 m := by kernel_rfl
def Qm (O : aJ) (t0 t1 : D) (m : Mem) : RV :=
 bd (au O bF [t0] m) fun r1 =>
 bd (au O bF [t1] r1.2) fun r2 =>
 bd (cZ [r1.1] (r2.2 ++ [.free])) fun r4 =>
 bd (cZ [r2.1] r4.2) fun r5 =>
 bd (ak .add [r4.1, r5.1] r5.2) fun r6 =>
 bd (wK (List.length r2.2) 0 1 [.int .u64 0] [r6.1, r6.1] r6.2) fun r7 =>
 bd (cZ [r1.1] r7.2) fun r8 =>
 jn (O.loop [6, 7, 26, 27, 28] [7] pJ (List.length r8.2) [r2.1, r7.1, r1.1, r8.1, (.int .i64 0)] r8.2) fun r9 =>
 dR (dL 0 r9.1)
 (bd (kH O dK [(hd r9.2.1)] r9.2.2) fun r11 =>
 bd (gc (List.length m) [r11.1] r11.2) fun r12 => some (aN r12))
 (fun i10 => none)
 (none)
theorem aa1 (O : aJ) (t0 t1 : D) (m : Mem) : FN.step2 O [t0, t1] m = Qm O t0 t1 m := by kernel_rfl
def uT (O : aJ) (base : Nat) (t5 t6 t7 t8 t27 t28 : D) (m : Mem) : Option (Ex × List D × Mem) :=
 bd (ak .lss [t28, t27] m) fun r1 =>
 aH r1.1
 (jn (bd (cZ [t6] r1.2) fun r2 =>
 bd (ak .lss [t28, r2.1] r2.2) fun r3 =>
 jn (aH r3.1
 (bd (bT 1 [t6, t28] r3.2) fun r4 =>
 bd (aB [r4.1] r4.2) fun r5 =>
 some (.normal, [t5, t6, t7, t8, t28, r5.1, t27, t28], r5.2))
 (some (.normal, [t5, t6, t7, t8, t28, (.int .u64 0), t27, t28], r3.2))) fun r6 =>
 dR r6.1
 (bd (bT 1 [(hd r6.2.1), (hd (tl (tl (tl (tl r6.2.1)))))] r6.2.2) fun r8 =>
 bd (aB [r8.1] r8.2) fun r9 =>
 bd (au O bits_Add64 [r9.1, (hd (tl (tl (tl (tl (tl r6.2.1)))))), (hd (tl (tl (tl r6.2.1))))] r9.2) fun r10 =>
 bd (aS 0 [r10.1] r10.2) fun r11 =>
 bd (aS 1 [r10.1] r11.2) fun r12 =>
 bd (bT 1 [(hd (tl (tl r6.2.1))), (hd (tl (tl (tl (tl r6.2.1)))))] r12.2) fun r13 =>
 bd (bD 1 [r13.1, r11.1] r13.2) fun r14 =>
 some (.normal, [(hd r6.2.1), (hd (tl r6.2.1)), (hd (tl (tl r6.2.1))), r12.1, (hd (tl (tl (tl (tl (tl (tl r6.2.1))))))), (hd (tl (tl (tl (tl (tl (tl (tl r6.2.1))))))))], r14.2))
 (fun i7 => some ((dL 1 (.exit i7)), [(hd r6.2.1), (hd (tl r6.2.1)), (hd (tl (tl r6.2.1))), (hd (tl (tl (tl r6.2.1)))), (hd (tl (tl (tl (tl (tl (tl r6.2.1))))))), (hd (tl (tl (tl (tl (tl (tl (tl r6.2.1))))))))], r6.2.2))
 (some (.ret, [(hd r6.2.1), (hd (tl r6.2.1)), (hd (tl (tl r6.2.1))), (hd (tl (tl (tl r6.2.1)))), (hd (tl (tl (tl (tl (tl (tl r6.2.1))))))), (hd (tl (tl (tl (tl (tl (tl (tl r6.2.1))))))))], r6.2.2))) fun r15 =>
 dR r15.1
 (bd (ak .add [(hd (tl (tl (tl (tl (tl r15.2.1)))))), .int .i64 1] r15.2.2) fun r17 =>
 bd (gc base [(hd r15.2.1), (hd (tl r15.2.1)), (hd (tl (tl r15.2.1))), (hd (tl (tl (tl r15.2.1)))), (hd (tl (tl (tl (tl r15.2.1))))), r17.1] r17.2) fun r18 => O.loop [5, 6, 7, 8, 27, 28] [5, 7, 8] pI base r18.1 r18.2)
 (fun i16 => bd (gc base [(hd r15.2.1), (hd (tl (tl r15.2.1))), (hd (tl (tl (tl r15.2.1))))] r15.2.2) fun r19 => some ((.exit i16), r19.1, r19.2))
 (bd (gc base [(hd r15.2.1), (hd (tl (tl r15.2.1))), (hd (tl (tl (tl r15.2.1))))] r15.2.2) fun r20 => some (.ret, r20.1, r20.2)))
 (bd (gc base [t5, t7, t8] r1.2) fun r21 => some ((.exit 0), r21.1, r21.2))
theorem H_ (O : aJ) (base : Nat) (t5 t6 t7 t8 t27 t28 : D) (m : Mem) : bY O [5, 6, 7, 8, 27, 28] [5, 7, 8] pI base [t5, t6, t7, t8, t27, t28] m = uT O base t5 t6 t7 t8 t27 t28 m := by kernel_rfl
def Gq (O : aJ) (t0 t1 : D) (m : Mem) : RV :=
 bd (au O bF [t0] m) fun r1 =>
 bd (au O bF [t1] r1.2) fun r2 =>
 bd (cZ [r1.1] r2.2) fun r3 =>
 bd (cZ [r2.1] r3.2) fun r4 =>
 bd (ak .lss [r3.1, r4.1] r4.2) fun r5 =>
 jn (aH r5.1
 (some (.normal, [r2.1, r1.1], r5.2))
 (some (.normal, [r1.1, r2.1], r5.2))) fun r6 =>
 dR r6.1
 (bd (cZ [(hd r6.2.1)] (r6.2.2 ++ [.free])) fun r9 =>
 bd (ak .add [r9.1, .int .i64 1] r9.2) fun r10 =>
 bd (wK (List.length r6.2.2) 0 1 [.int .u64 0] [r10.1, r10.1] r10.2) fun r11 =>
 bd (cZ [(hd r6.2.1)] r11.2) fun r12 =>
 jn (O.loop [5, 6, 7, 8, 27, 28] [5, 7, 8] pI (List.length r12.2) [(hd r6.2.1), (hd (tl r6.2.1)), r11.1, (.int .u64 0), r12.1, (.int .i64 0)] r12.2) fun r13 =>
 dR (dL 0 r13.1)
 (bd (cZ [(hd r13.2.1)] r13.2.2) fun r15 =>
 bd (bT 1 [(hd (tl r13.2.1)), r15.1] r15.2) fun r16 =>
 bd (bD 1 [r16.1, (hd (tl (tl r13.2.1)))] r16.2) fun r17 =>
 bd (kH O dK [(hd (tl r13.2.1))] r17.2) fun r18 =>
 bd (gc (List.length m) [r18.1] r18.2) fun r19 => some (aN r19))
 (fun i14 => none)
 (none))
 (fun i7 => none)
 (none)
theorem aaX (O : aJ) (t0 t1 : D) (m : Mem) : FH.step2 O [t0, t1] m = Gq O t0 t1 m := by kernel_rfl
def Ql (O : aJ) (t0 t1 : D) (m : Mem) : RV :=
 bd (au O bF [t0] m) fun r1 =>
 bd (au O bF [t1] r1.2) fun r2 =>
 bd (au O jB [r1.1, r2.1] r2.2) fun r3 =>
 bd (gc (List.length m) [r3.1] r3.2) fun r4 => some (aN r4)
theorem aaY (O : aJ) (t0 t1 : D) (m : Mem) : FI.step2 O [t0, t1] m = Ql O t0 t1 m := by kernel_rfl
def uU (O : aJ) (base : Nat) (t6 t7 t8 t9 t25 t26 : D) (m : Mem) : Option (Ex × List D × Mem) :=
 bd (ak .lss [t26, t25] m) fun r1 =>
 aH r1.1
 (jn (bd (cZ [t7] r1.2) fun r2 =>
 bd (ak .lss [t26, r2.1] r2.2) fun r3 =>
 jn (aH r3.1
 (bd (bT 1 [t7, t26] r3.2) fun r4 =>
 bd (aB [r4.1] r4.2) fun r5 =>
 some (.normal, [t6, t7, t8, t9, t26, r5.1, t25, t26], r5.2))
 (some (.normal, [t6, t7, t8, t9, t26, (.int .u64 0), t25, t26], r3.2))) fun r6 =>
 dR r6.1
 (bd (bT 1 [(hd r6.2.1), (hd (tl (tl (tl (tl r6.2.1)))))] r6.2.2) fun r8 =>
 bd (aB [r8.1] r8.2) fun r9 =>
 bd (au O bits_Sub64 [r9.1, (hd (tl (tl (tl (tl (tl r6.2.1)))))), (hd (tl (tl (tl r6.2.1))))] r9.2) fun r10 =>
 bd (aS 0 [r10.1] r10.2) fun r11 =>
 bd (aS 1 [r10.1] r11.2) fun r12 =>
 bd (bT 1 [(hd (tl (tl r6.2.1))), (hd (tl (tl (tl (tl r6.2.1)))))] r12.2) fun r13 =>
 bd (bD 1 [r13.1, r11.1] r13.2) fun r14 =>
 some (.normal, [(hd r6.2.1), (hd (tl r6.2.1)), (hd (tl (tl r6.2.1))), r12.1, (hd (tl (tl (tl (tl (tl (tl r6.2.1))))))), (hd (tl (tl (tl (tl (tl (tl (tl r6.2.1))))))))], r14.2))
 (fun i7 => some ((dL 1 (.exit i7)), [(hd r6.2.1), (hd (tl r6.2.1)), (hd (tl (tl r6.2.1))), (hd (tl (tl (tl r6.2.1)))), (hd (tl (tl (tl (tl (tl (tl r6.2.1))))))), (hd (tl (tl (tl (tl (tl (tl (tl r6.2.1))))))))], r6.2.2))
 (some (.ret, [(hd r6.2.1), (hd (tl r6.2.1)), (hd (tl (tl r6.2.1))), (hd (tl (tl (tl r6.2.1)))), (hd (tl (tl (tl (tl (tl (tl r6.2.1))))))), (hd (tl (tl (tl (tl (tl (tl (tl r6.2.1))))))))], r6.2.2))) fun r15 =>
 dR r15.1
 (bd (ak .add [(hd (tl (tl (tl (tl (tl r15.2.1)))))), .int .i64 1] r15.2.2) fun r17 =>
 bd (gc base [(hd r15.2.1), (hd (tl r15.2.1)), (hd (tl (tl r15.2.1))), (hd (tl (tl (tl r15.2.1)))), (hd (tl (tl (tl (tl r15.2.1))))), r17.1] r17.2) fun r18 => O.loop [6, 7, 8, 9, 25, 26] [8] tq base r18.1 r18.2)
 (fun i16 => bd (gc base [(hd (tl (tl r15.2.1)))] r15.2.2) fun r19 => some ((.exit i16), r19.1, r19.2))
 (bd (gc base [(hd (tl (tl r15.2.1)))] r15.2.2) fun r20 => some (.ret, r20.1, r20.2)))
 (bd (gc base [t8] r1.2) fun r21 => some ((.exit 0), r21.1, r21.2))
theorem Ic (O : aJ) (base : Nat) (t6 t7 t8 t9 t25 t26 : D) (m : Mem) : bY O [6, 7, 8, 9, 25, 26] [8] tq base [t6, t7, t8, t9, t25, t26] m = uU O base t6 t7 t8 t9 t25 t26 m := by kernel_rfl
def Qo (O : aJ) (t0 t1 : D) (m : Mem) : RV :=
 bd (au O bF [t0] m) fun r1 =>
 bd (au O bF [t1] r1.2) fun r2 =>
 bd (au O jB [r1.1, r2.1] r2.2) fun r3 =>
 bd (ak .lss [r3.1, .int .i64 0] r3.2) fun r4 =>
 aH r4.1
 (bd (au O bV [.int .i64 2] r4.2) fun r5 =>
 bd (gc (List.length m) [(.aO), r5.1] r5.2) fun r6 => some (aN r6))
 (bd (cZ [r1.1] (r4.2 ++ [.free])) fun r8 =>
 bd (wK (List.length r4.2) 0 1 [.int .u64 0] [r8.1, r8.1] r8.2) fun r9 =>
 bd (cZ [r1.1] r9.2) fun r10 =>
 jn (O.loop [6, 7, 8, 9, 25, 26] [8] tq (List.length r10.2) [r1.1, r2.1, r9.1, (.int .u64 0), r10.1, (.int .i64 0)] r10.2) fun r11 =>
 dR (dL 0 r11.1)
 (bd (kH O dK [(hd r11.2.1)] r11.2.2) fun r13 =>
 bd (gc (List.length m) [r13.1, (.aC)] r13.2) fun r14 => some (aN r14))
 (fun i12 => none)
 (none))
theorem aa3 (O : aJ) (t0 t1 : D) (m : Mem) : FQ.step2 O [t0, t1] m = Qo O t0 t1 m := by kernel_rfl
def Ol (O : aJ) (t0 : D) (m : Mem) : RV :=
 bd (au O bF [t0] m) fun r1 =>
 bd (cZ [r1.1] r1.2) fun r2 =>
 bd (ak .eql [r2.1, .int .i64 0] r2.2) fun r3 =>
 bd (gc (List.length m) [r3.1] r3.2) fun r4 => some (aN r4)
theorem YO (O : aJ) (t0 : D) (m : Mem) : CO.step2 O [t0] m = Ol O t0 m := by kernel_rfl
def og (O : aJ) (t0 t1 : D) (m : Mem) : RV :=
 bd (au O jA [t0, t1] m) fun r1 =>
 bd (ak .lss [r1.1, .int .i64 0] r1.2) fun r2 =>
 jn (aH r2.1
 (some (.normal, [t1, t0], r2.2))
 (some (.normal, [t0, t1], r2.2))) fun r3 =>
 dR r3.1
 (bd (au O dX [(hd (tl r3.2.1))] r3.2.2) fun r5 =>
 aH r5.1
 (bd (au O bF [(hd r3.2.1)] r5.2) fun r6 =>
 bd (au O dK [r6.1] r6.2) fun r7 =>
 bd (gc (List.length m) [r7.1] r7.2) fun r8 => some (aN r8))
 (bd (au O gJ [(hd r3.2.1), (hd (tl r3.2.1))] r5.2) fun r9 =>
 bd (aS 0 [r9.1] r9.2) fun r10 =>
 bd (aS 1 [r9.1] r10.2) fun r11 =>
 bd (aS 2 [r9.1] r11.2) fun r12 =>
 bd (au O dX [r11.1] r12.2) fun r13 =>
 aH r13.1
 (bd (au O bF [(hd (tl r3.2.1))] r13.2) fun r14 =>
 bd (au O dK [r14.1] r14.2) fun r15 =>
 bd (gc (List.length m) [r15.1] r15.2) fun r16 => some (aN r16))
 (bd (au O bF [(hd (tl r3.2.1))] r13.2) fun r17 =>
 bd (au O bF [r11.1] r17.2) fun r18 =>
 bd (au O xR [r17.1, r18.1] r18.2) fun r19 =>
 bd (gc (List.length m) [r19.1] r19.2) fun r20 => some (aN r20))))
 (fun i4 => none)
 (none)
theorem aa0 (O : aJ) (t0 t1 : D) (m : Mem) : FM.step2 O [t0, t1] m = og O t0 t1 m := by kernel_rfl
def zA (O : aJ) (t0 t1 : D) (m : Mem) : RV :=
 bd (au O bF [t0] m) fun r1 =>
 bd (au O bF [t1] r1.2) fun r2 =>
 bd (cZ [r2.1] r2.2) fun r3 =>
 bd (ak .eql [r3.1, .int .i64 0] r3.2) fun r4 =>
 aH r4.1
 (bd (au O bV [.int .i64 3] r4.2) fun r5 =>
 bd (gc (List.length m) [(.aO), (.aO), r5.1] r5.2) fun r6 => some (aN r6))
 (bd (au O jB [r1.1, r2.1] r4.2) fun r7 =>
 bd (ak .lss [r7.1, .int .i64 0] r7.2) fun r8 =>
 aH r8.1
 (bd (au O fD [.int .u64 0] r8.2) fun r9 =>
 bd (au O dK [r1.1] r9.2) fun r10 =>
 bd (gc (List.length m) [r9.1, r10.1, (.aC)] r10.2) fun r11 => some (aN r11))
 (bd (cZ [r2.1] r8.2) fun r12 =>
 bd (ak .eql [r12.1, .int .i64 1] r12.2) fun r13 =>
 aH r13.1
 (bd (bT 1 [r2.1, .int .i64 0] r13.2) fun r14 =>
 bd (aB [r14.1] r14.2) fun r15 =>
 bd (au O t_ [r1.1, r15.1] r15.2) fun r16 =>
 bd (aS 0 [r16.1] r16.2) fun r17 =>
 bd (aS 1 [r16.1] r17.2) fun r18 =>
 bd (au O dK [r17.1] r18.2) fun r19 =>
 bd (au O fD [r18.1] r19.2) fun r20 =>
 bd (gc (List.length m) [r19.1, r20.1, (.aC)] r20.2) fun r21 => some (aN r21))
 (bd (au O Jq [r1.1, r2.1] r13.2) fun r22 =>
 bd (aS 0 [r22.1] r22.2) fun r23 =>
 bd (aS 1 [r22.1] r23.2) fun r24 =>
 bd (au O dK [r23.1] r24.2) fun r25 =>
 bd (au O dK [r24.1] r25.2) fun r26 =>
 bd (gc (List.length m) [r25.1, r26.1, (.aC)] r26.2) fun r27 => some (aN r27))))
theorem aaZ (O : aJ) (t0 t1 : D) (m : Mem) : FK.step2 O [t0, t1] m = zA O t0 t1 m := by kernel_rfl
def kD (O : aJ) (base : Nat) (t2 t3 t6 t7 : D) (m : Mem) : Option (Ex × List D × Mem) :=
 bd (aK 0 [t3] m) fun r1 =>
 bd (aB [r1.1] r1.2) fun r2 =>
 bd (ak .gtr [t7, r2.1] r2.2) fun r3 =>
 aH r3.1
 (bd (dh 9 [t2] r3.2) fun r4 =>
 bd (au O ny [r4.1, t7] r4.2) fun r5 =>
 bd (aS 0 [r5.1] r5.2) fun r6 =>
 bd (aS 1 [r5.1] r6.2) fun r7 =>
 bd (iH true true [r7.1, .aC] r7.2) fun r8 =>
 aH r8.1
 (bd (gc base [(.cO), r7.1, t6] r8.2) fun r9 => some (.ret, r9.1, r9.2))
 (bd (jh [.int .i64 0, .int .i64 0] [(0, 1), (1, 1)] [r6.1, t7] (r8.2 ++ [.free])) fun r11 =>
 bd (DW 1 [.int .i64 0, .int .i64 0] [(0, 2)] [r11.1] r11.2) fun r12 =>
 bd (Jy (List.length r8.2) 0 2 [t6, r12.1] r12.2) fun r13 =>
 bd (gc base [t2, t3, r13.1, r6.1] r13.2) fun r14 => O.loop [2, 3, 6, 7] [4, 5, 6] gY base r14.1 r14.2))
 (bd (gc base [.undef, .undef, t6] r3.2) fun r15 => some ((.exit 0), r15.1, r15.2))
theorem mg (O : aJ) (base : Nat) (t2 t3 t6 t7 : D) (m : Mem) : bY O [2, 3, 6, 7] [4, 5, 6] gY base [t2, t3, t6, t7] m = kD O base t2 t3 t6 t7 m := by kernel_rfl
def zy (O : aJ) (t0 t1 : D) (m : Mem) : RV :=
 bd (je (List.length m) 0 [t0] (m ++ [.free, .free])) fun r2 =>
 bd (je (List.length m) 1 [t1] r2.2) fun r3 =>
 bd (aK 1 [r3.1] r3.2) fun r4 =>
 bd (aB [r4.1] r4.2) fun r5 =>
 jn (O.loop [2, 3, 6, 7] [4, 5, 6] gY (List.length r5.2) [r2.1, r3.1, (.cO), r5.1] r5.2) fun r6 =>
 dR (dL 0 r6.1)
 (bd (gc (List.length m) [(hd (tl (tl r6.2.1))), (.aC)] r6.2.2) fun r8 => some (aN r8))
 (fun i7 => none)
 (bd (gc (List.length m) [(hd r6.2.1), (hd (tl r6.2.1))] r6.2.2) fun r9 => some (aN r9))
theorem Fa (O : aJ) (t0 t1 : D) (m : Mem) : FB.step2 O [t0, t1] m = zy O t0 t1 m := by kernel_rfl
def JL (O : aJ) (t0 t1 t2 t3 t4 t5 : D) (m : Mem) : RV :=
 bd (au O rC [t0] m) fun r1 =>
 bd (iI [r1.1] r1.2) fun r2 =>
 aH r2.1
 (bd (au O bV [.int .i64 1] r2.2) fun r3 =>
 bd (gc (List.length m) [(.aO), r3.1] r3.2) fun r4 => some (aN r4))
 (bd (yU O [(.func nG []), t1] r2.2) fun r5 =>
 bd (iI [r5.1] r5.2) fun r6 =>
 bd (aG (ay r6.1 false) (bI [(.func nG [])] r6.2) r6.2) fun r7 =>
 bd (aG (ay r6.1 false) (bI [t2] r7.2) r7.2) fun r8 =>
 bd (aG (ay r6.1 false) (yU O [r7.1, r8.1] r8.2) r8.2) fun r9 =>
 bd (aG (ay r6.1 false) (iI [r9.1] r9.2) r9.2) fun r10 =>
 bd (bJ [r6.1, .bool true, r10.1] r10.2) fun r11 =>
 bd (aG (ay r11.1 false) (bI [t2] r11.2) r11.2) fun r12 =>
 bd (aG (ay r11.1 false) (bI [t1] r12.2) r12.2) fun r13 =>
 bd (aG (ay r11.1 false) (ak .lss [r12.1, r13.1] r13.2) r13.2) fun r14 =>
 bd (bJ [r11.1, .bool true, r14.1] r14.2) fun r15 =>
 bd (aG (ay r15.1 false) (bI [t0] r15.2) r15.2) fun r16 =>
 bd (aG (ay r15.1 false) (ak .eql [r16.1, .int .i64 4] r16.2) r16.2) fun r17 =>
 bd (aG (ay r15.1 false) (bI [r17.1] r17.2) r17.2) fun r18 =>
 bd (aG (ay r18.1 true) (bI [(.func nG [])] r18.2) r18.2) fun r19 =>
 bd (aG (ay r18.1 true) (bI [t3] r19.2) r19.2) fun r20 =>
 bd (aG (ay r18.1 true) (yU O [r19.1, r20.1] r20.2) r20.2) fun r21 =>
 bd (aG (ay r18.1 true) (iI [r21.1] r21.2) r21.2) fun r22 =>
 bd (aG (ay r18.1 true) (bI [r22.1] r22.2) r22.2) fun r23 =>
 bd (aG (ay r23.1 false) (bI [(.func nG [])] r23.2) r23.2) fun r24 =>
 bd (aG (ay r23.1 false) (bI [t4] r24.2) r24.2) fun r25 =>
 bd (aG (ay r23.1 false) (yU O [r24.1, r25.1] r25.2) r25.2) fun r26 =>
 bd (aG (ay r23.1 false) (iI [r26.1] r26.2) r26.2) fun r27 =>
 bd (aG (ay r18.1 true) (bJ [r23.1, .bool true, r27.1] r27.2) r27.2) fun r28 =>
 bd (aG (ay r15.1 false) (bJ [r18.1, r28.1, .bool false] r28.2) r28.2) fun r29 =>
 bd (bJ [r15.1, .bool true, r29.1] r29.2) fun r30 =>
 aH r30.1
 (bd (au O bV [.int .i64 4] r30.2) fun r31 =>
 bd (gc (List.length m) [(.aO), r31.1] r31.2) fun r32 => some (aN r32))
 (bd (ak .eql [t0, .int .i64 4] r30.2) fun r33 =>
 bd (aG (ay r33.1 true) (bI [t3] r33.2) r33.2) fun r34 =>
 bd (aG (ay r33.1 true) (bI [t4] r34.2) r34.2) fun r35 =>
 bd (aG (ay r33.1 true) (ak .geq [r34.1, r35.1] r35.2) r35.2) fun r36 =>
 bd (aG (ay r33.1 true) (bI [r36.1] r36.2) r36.2) fun r37 =>
 bd (aG (ay r37.1 false) (bI [t5] r37.2) r37.2) fun r38 =>
 bd (aG (ay r37.1 false) (ak .lss [r38.1, .int .i64 1] r38.2) r38.2) fun r39 =>
 bd (aG (ay r33.1 true) (bJ [r37.1, .bool true, r39.1] r39.2) r39.2) fun r40 =>
 bd (bJ [r33.1, r40.1, .bool false] r40.2) fun r41 =>
 aH r41.1
 (bd (au O bV [.int .i64 2] r41.2) fun r42 =>
 bd (gc (List.length m) [(.aO), r42.1] r42.2) fun r43 => some (aN r43))
 (jn (bd (ak .eql [t0, .int .i64 3] r41.2) fun r44 =>
 jn (aH r44.1
 (some (.normal, [t0, t1, t2, t5, (.int .i64 365)], r44.2))
 (bd (ak .eql [t0, .int .i64 4] r44.2) fun r45 =>
 jn (aH r45.1
 (bd (ak .sub [t4, t3] r45.2) fun r46 =>
 some (.normal, [t0, t1, t2, t5, r46.1], r46.2))
 (some (.normal, [t0, t1, t2, t5, (.int .i64 360)], r45.2))) fun r47 =>
 some (r47.1, [(hd r47.2.1), (hd (tl r47.2.1)), (hd (tl (tl r47.2.1))), (hd (tl (tl (tl r47.2.1)))), (hd (tl (tl (tl (tl r47.2.1)))))], r47.2.2))) fun r48 =>
 some ((dL 1 r48.1), [(hd r48.2.1), (hd (tl r48.2.1)), (hd (tl (tl r48.2.1))), (hd (tl (tl (tl r48.2.1)))), (hd (tl (tl (tl (tl r48.2.1)))))], r48.2.2)) fun r49 =>
 dR r49.1
 (bd (au O AB [(hd r49.2.1), (hd (tl r49.2.1)), (hd (tl (tl r49.2.1)))] r49.2.2) fun r51 =>
 bd (au O iD [r51.1, (hd (tl (tl (tl (tl r49.2.1)))))] r51.2) fun r52 =>
 bd (aS 0 [r52.1] r52.2) fun r53 =>
 bd (aS 1 [r52.1] r53.2) fun r54 =>
 bd (iH true true [r54.1, .aC] r54.2) fun r55 =>
 bd (aG (ay r55.1 false) (bI [(hd r49.2.1)] r55.2) r55.2) fun r56 =>
 bd (aG (ay r55.1 false) (ak .neq [r56.1, .int .i64 4] r56.2) r56.2) fun r57 =>
 bd (bJ [r55.1, .bool true, r57.1] r57.2) fun r58 =>
 aH r58.1
 (bd (gc (List.length m) [r53.1, r54.1] r58.2) fun r59 => some (aN r59))
 (bd (au O iD [(hd (tl (tl (tl r49.2.1)))), .int .i64 1] r58.2) fun r60 =>
 bd (aS 0 [r60.1] r60.2) fun r61 =>
 bd (aS 1 [r60.1] r61.2) fun r62 =>
 bd (au O o9 [r53.1, r61.1] r62.2) fun r63 =>
 bd (aS 0 [r63.1] r63.2) fun r64 =>
 bd (aS 1 [r63.1] r64.2) fun r65 =>
 bd (gc (List.length m) [r64.1, r65.1] r65.2) fun r66 => some (aN r66)))
 (fun i50 => none)
 (none))))
theorem acC (O : aJ) (t0 t1 t2 t3 t4 t5 : D) (m : Mem) : IX.step2 O [t0, t1, t2, t3, t4, t5] m = JL O t0 t1 t2 t3 t4 t5 m := by kernel_rfl
def TS (O : aJ) (base : Nat) (t0 t6 t35 t36 t37 : D) (m : Mem) : Option (Ex × List D × Mem) :=
 bd (ak .lss [t37, t36] m) fun r1 =>
 aH r1.1
 (bd (bT 1 [t35, t37] r1.2) fun r2 =>
 bd (aB [r2.1] r2.2) fun r3 =>
 bd (lF [t6] r3.2) fun r4 =>
 bd (aK 0 [r4.1] r4.2) fun r5 =>
 bd (aB [r5.1] r5.2) fun r6 =>
 bd (LP [r6.1, r3.1, .bool true] r6.2) fun r7 =>
 bd (ak .add [t37, .int .i64 1] r7.2) fun r8 =>
 bd (gc base [t0, t6, t35, t36, r8.1] r8.2) fun r9 => O.loop [0, 6, 35, 36, 37] [0, 6] Az base r9.1 r9.2)
 (bd (gc base [t0, t6] r1.2) fun r10 => some ((.exit 1), r10.1, r10.2))
theorem acA (O : aJ) (base : Nat) (t0 t6 t35 t36 t37 : D) (m : Mem) : bY O [0, 6, 35, 36, 37] [0, 6] Az base [t0, t6, t35, t36, t37] m = TS O base t0 t6 t35 t36 t37 m := by kernel_rfl
def JI (O : aJ) (base : Nat) (t6 t10 t11 t47 t48 t49 : D) (m : Mem) : Option (Ex × List D × Mem) :=
 bd (ak .leq [t11, .int .i64 2199] m) fun r1 =>
 aH r1.1
 (jn (bd (dh 6 [t10] r1.2) fun r2 =>
 bd (au O CY [r2.1, t11] r2.2) fun r3 =>
 bd (aS 0 [r3.1] r3.2) fun r4 =>
 bd (aS 1 [r3.1] r4.2) fun r5 =>
 jn (aH r5.1
 (bd (lF [t6] r5.2) fun r6 =>
 bd (aK 0 [r6.1] r6.2) fun r7 =>
 bd (aB [r7.1] r7.2) fun r8 =>
 bd (LP [r8.1, r4.1, .bool true] r8.2) fun r9 =>
 some (.normal, [t6, t10, t11, t47, t48, t49], r9.2))
 (some (.normal, [t6, t10, t11, t47, t48, t49], r5.2))) fun r10 =>
 some ((dL 6 r10.1), [(hd r10.2.1), (hd (tl r10.2.1)), (hd (tl (tl r10.2.1))), (hd (tl (tl (tl r10.2.1)))), (hd (tl (tl (tl (tl r10.2.1))))), (hd (tl (tl (tl (tl (tl r10.2.1))))))], r10.2.2)) fun r11 =>
 dR r11.1
 (bd (ak .add [(hd (tl (tl r11.2.1))), .int .i64 1] r11.2.2) fun r13 =>
 bd (gc base [(hd r11.2.1), (hd (tl r11.2.1)), r13.1, (hd (tl (tl (tl r11.2.1)))), (hd (tl (tl (tl (tl r11.2.1))))), (hd (tl (tl (tl (tl (tl r11.2.1))))))] r13.2) fun r14 => O.loop [6, 10, 11, 47, 48, 49] [6, 47, 48, 49] AA base r14.1 r14.2)
 (fun i12 => bd (gc base [(hd r11.2.1), (hd (tl (tl (tl r11.2.1)))), (hd (tl (tl (tl (tl r11.2.1))))), (hd (tl (tl (tl (tl (tl r11.2.1))))))] r11.2.2) fun r15 => some ((.exit i12), r15.1, r15.2))
 (bd (gc base [(hd r11.2.1), (hd (tl (tl (tl r11.2.1)))), (hd (tl (tl (tl (tl r11.2.1))))), (hd (tl (tl (tl (tl (tl r11.2.1))))))] r11.2.2) fun r16 => some (.ret, r16.1, r16.2)))
 (bd (gc base [t6, t47, t48, t49] r1.2) fun r17 => some ((.exit 5), r17.1, r17.2))
theorem QY (O : aJ) (base : Nat) (t6 t10 t11 t47 t48 t49 : D) (m : Mem) : bY O [6, 10, 11, 47, 48, 49] [6, 47, 48, 49] AA base [t6, t10, t11, t47, t48, t49] m = JI O base t6 t10 t11 t47 t48 t49 m := by kernel_rfl
def JJ (O : aJ) (base : Nat) (t6 t47 t48 t49 : D) (m : Mem) : Option (Ex × List D × Mem) :=
 bd (ak .lss [t49, t48] m) fun r1 =>
 aH r1.1
 (bd (bT 6 [t47, t49] (r1.2 ++ [.free])) fun r3 =>
 bd (dh 6 [r3.1] r3.2) fun r4 =>
 bd (gG (List.length r1.2) 0 [.int .i64 0, .int .i64 0, .int .i64 0, .int .i64 0, .int .i64 0, .bool false] [] r4.2) fun r5 =>
 bd (bD 6 [r5.1, r4.1] r5.2) fun r6 =>
 jn (O.loop [6, 10, 11, 47, 48, 49] [6, 47, 48, 49] AA (List.length r6.2) [t6, r5.1, (.int .i64 1900), t47, t48, t49] r6.2) fun r7 =>
 dR (dL 4 (dL 5 r7.1))
 (bd (ak .add [(hd (tl (tl (tl r7.2.1)))), .int .i64 1] r7.2.2) fun r9 =>
 bd (gc base [(hd r7.2.1), (hd (tl r7.2.1)), (hd (tl (tl r7.2.1))), r9.1] r9.2) fun r10 => O.loop [6, 47, 48, 49] [6] xK base r10.1 r10.2)
 (fun i8 => bd (gc base [(hd r7.2.1)] r7.2.2) fun r11 => some ((.exit i8), r11.1, r11.2))
 (bd (gc base [(hd r7.2.1)] r7.2.2) fun r12 => some (.ret, r12.1, r12.2)))
 (bd (gc base [t6] r1.2) fun r13 => some ((.exit 3), r13.1, r13.2))
theorem QZ (O : aJ) (base : Nat) (t6 t47 t48 t49 : D) (m : Mem) : bY O [6, 47, 48, 49] [6] xK base [t6, t47, t48, t49] m = JJ O base t6 t47 t48 t49 m := by kernel_rfl
def aaA (O : aJ) (t0 t1 : D) (m : Mem) : RV :=
 bd (cZ [t0] m) fun r1 =>
 bd (ak .gtr [r1.1, .int .i64 20] r1.2) fun r2 =>
 bd (aG (ay r2.1 false) (bI [t1] r2.2) r2.2) fun r3 =>
 bd (aG (ay r2.1 false) (cZ [r3.1] r3.2) r3.2) fun r4 =>
 bd (aG (ay r2.1 false) (ak .gtr [r4.1, .int .i64 100] r4.2) r4.2) fun r5 =>
 bd (bJ [r2.1, .bool true, r5.1] r5.2) fun r6 =>
 aH r6.1
 (bd (au O bV [.int .i64 2] r6.2) fun r7 =>
 bd (jZ (fz FZ) [(.aO), r7.1] r7.2) fun r8 =>
 bd (gc (List.length m) [(hd r8.1), (hd (tl r8.1))] r8.2) fun r9 => some (aN r9))
 (bd (au O jE [t0, .func La []] r6.2) fun r10 =>
 aH r10.1
 (bd (au O bV [.int .i64 1] r10.2) fun r11 =>
 bd (jZ (fz FZ) [(.aO), r11.1] r11.2) fun r12 =>
 bd (gc (List.length m) [(hd r12.1), (hd (tl r12.1))] r12.2) fun r13 => some (aN r13))
 (bd (au O lX [t1, .func Lc []] r10.2) fun r14 =>
 aH r14.1
 (bd (au O bV [.int .i64 4] r14.2) fun r15 =>
 bd (jZ (fz FZ) [(.aO), r15.1] r15.2) fun r16 =>
 bd (gc (List.length m) [(hd r16.1), (hd (tl r16.1))] r16.2) fun r17 => some (aN r17))
 (bd (WW (List.length r14.2) 0 [] (r14.2 ++ [.free, .free])) fun r19 =>
 bd (jh [.qJ] [(0, 1)] [r19.1] r19.2) fun r20 =>
 bd (je (List.length r14.2) 1 [r20.1] r20.2) fun r21 =>
 bd (cZ [t1] r21.2) fun r22 =>
 jn (O.loop [0, 6, 35, 36, 37] [0, 6] Az (List.length r22.2) [t0, r21.1, t1, r22.1, (.int .i64 0)] r22.2) fun r23 =>
 dR (dL 1 r23.1)
 (bd (cZ [(hd r23.2.1)] r23.2.2) fun r25 =>
 jn (O.loop [6, 47, 48, 49] [6] xK (List.length r25.2) [(hd (tl r23.2.1)), (hd r23.2.1), r25.1, (.int .i64 0)] r25.2) fun r26 =>
 dR (dL 3 r26.1)
 (bd (jZ (fz FZ) [(hd r26.2.1), (.aC)] r26.2.2) fun r28 =>
 bd (gc (List.length m) [(hd r28.1), (hd (tl r28.1))] r28.2) fun r29 => some (aN r29))
 (fun i27 => none)
 (none))
 (fun i24 => none)
 (none))))
theorem ahZ (O : aJ) (t0 t1 : D) (m : Mem) : RP.step2 O [t0, t1] m = aaA O t0 t1 m := by kernel_rfl
def jc (O : aJ) (base : Nat) (t3 t4 : D) (m : Mem) : Option (Ex × List D × Mem) :=
 bd (cZ [t4] m) fun r1 =>
 bd (ak .gtr [r1.1, .int .i64 0] r1.2) fun r2 =>
 aH r2.1
 (jn (bd (kH O t_ [t4, .int .u64 1000000000000000000] r2.2) fun r3 =>
 bd (aS 0 [r3.1] r3.2) fun r4 =>
 bd (aS 1 [r3.1] r4.2) fun r5 =>
 bd (kH O dK [r4.1] r5.2) fun r6 =>
 bd (lF [r6.1] r6.2) fun r7 =>
 bd (aK 0 [r7.1] r7.2) fun r8 =>
 bd (aB [r8.1] r8.2) fun r9 =>
 bd (au O gI [r5.1, .int .i64 10] r9.2) fun r10 =>
 bd (cZ [r9.1] r10.2) fun r11 =>
 bd (ak .gtr [r11.1, .int .i64 0] r11.2) fun r12 =>
 jn (aH r12.1
 (bd (xY [r10.1] r12.2) fun r13 =>
 bd (ak .sub [.int .i64 18, r13.1] r13.2) fun r14 =>
 bd (au O strings_Repeat [.str [48], r14.1] r14.2) fun r15 =>
 bd (kM .add [r15.1, r10.1] r15.2) fun r16 =>
 some (.normal, [t3, r9.1, r16.1], r16.2))
 (some (.normal, [t3, r9.1, r10.1], r12.2))) fun r17 =>
 dR r17.1
 (bd (DW 1 [.str []] [(0, 1)] [(hd (tl (tl r17.2.1)))] (r17.2.2 ++ [.free])) fun r20 =>
 bd (Jy (List.length r17.2.2) 0 1 [(hd r17.2.1), r20.1] r20.2) fun r21 =>
 some (.normal, [r21.1, (hd (tl r17.2.1))], r21.2))
 (fun i18 => some ((dL 1 (.exit i18)), [(hd r17.2.1), (hd (tl r17.2.1))], r17.2.2))
 (some (.ret, [(hd r17.2.1), (hd (tl r17.2.1))], r17.2.2))) fun r22 =>
 dR r22.1
 (bd (gc base [(hd r22.2.1), (hd (tl r22.2.1))] r22.2.2) fun r24 => O.loop [3, 4] [3] lD base r24.1 r24.2)
 (fun i23 => bd (gc base [(hd r22.2.1)] r22.2.2) fun r25 => some ((.exit i23), r25.1, r25.2))
 (bd (gc base [(hd r22.2.1)] r22.2.2) fun r26 => some (.ret, r26.1, r26.2)))
 (bd (gc base [t3] r2.2) fun r27 => some ((.exit 0), r27.1, r27.2))
theorem oC (O : aJ) (base : Nat) (t3 t4 : D) (m : Mem) : bY O [3, 4] [3] lD base [t3, t4] m = jc O base t3 t4 m := by kernel_rfl
def D8 (O : aJ) (t0 : D) (m : Mem) : RV :=
 bd (au O bF [t0] m) fun r1 =>
 bd (O.aY dS [r1.1] r1.2) fun r2 =>
 jn (O.loop [3, 4] [3] lD (List.length r2.2) [(.cO), r2.1] r2.2) fun r3 =>
 dR (dL 0 r3.1)
 (bd (cZ [(hd r3.2.1)] r3.2.2) fun r5 =>
 bd (ak .eql [r5.1, .int .i64 0] r5.2) fun r6 =>
 aH r6.1
 (bd (gc (List.length m) [(.str [48])] r6.2) fun r7 => some (aN r7))
 (bd (O.aY slices_Reverse_string [(hd r3.2.1)] r6.2) fun r8 =>
 bd (kH O strings_Join [(hd r3.2.1), .str []] r8.2) fun r9 =>
 bd (gc (List.length m) [r9.1] r9.2) fun r10 => some (aN r10)))
 (fun i4 => none)
 (none)
theorem YN (O : aJ) (t0 : D) (m : Mem) : CJ.step2 O [t0] m = D8 O t0 m := by kernel_rfl
def iE (O : aJ) (t0 : D) (m : Mem) : RV :=
 bd (au O strings_CutPrefix [t0, .str [45]] m) fun r1 =>
 bd (aS 0 [r1.1] r1.2) fun r2 =>
 bd (aS 1 [r1.1] r2.2) fun r3 =>
 bd (au O strings_Cut [r2.1, .str [46]] r3.2) fun r4 =>
 bd (aS 0 [r4.1] r4.2) fun r5 =>
 bd (aS 1 [r4.1] r5.2) fun r6 =>
 bd (aS 2 [r4.1] r6.2) fun r7 =>
 bd (xY [t0] r7.2) fun r8 =>
 bd (ak .gtr [r8.1, .int .i64 60] r8.2) fun r9 =>
 bd (aG (ay r9.1 false) (bI [r7.1] r9.2) r9.2) fun r10 =>
 bd (aG (ay r9.1 false) (bI [r10.1] r10.2) r10.2) fun r11 =>
 bd (aG (ay r11.1 true) (bI [r6.1] r11.2) r11.2) fun r12 =>
 bd (aG (ay r11.1 true) (kM .eql [r12.1, .str []] r12.2) r12.2) fun r13 =>
 bd (aG (ay r11.1 true) (bI [r13.1] r13.2) r13.2) fun r14 =>
 bd (aG (ay r14.1 false) (bI [r6.1] r14.2) r14.2) fun r15 =>
 bd (aG (ay r14.1 false) (xY [r15.1] r15.2) r15.2) fun r16 =>
 bd (aG (ay r14.1 false) (ak .gtr [r16.1, .int .i64 20] r16.2) r16.2) fun r17 =>
 bd (aG (ay r11.1 true) (bJ [r14.1, .bool true, r17.1] r17.2) r17.2) fun r18 =>
 bd (aG (ay r11.1 true) (bI [r18.1] r18.2) r18.2) fun r19 =>
 bd (aG (ay r19.1 false) (bI [r6.1] r19.2) r19.2) fun r20 =>
 bd (aG (ay r19.1 false) (au O jV [r20.1, .str [48, 49, 50, 51, 52, 53, 54, 55, 56, 57]] r20.2) r20.2) fun r21 =>
 bd (aG (ay r19.1 false) (kM .neq [r21.1, .str []] r21.2) r21.2) fun r22 =>
 bd (aG (ay r11.1 true) (bJ [r19.1, .bool true, r22.1] r22.2) r22.2) fun r23 =>
 bd (aG (ay r9.1 false) (bJ [r11.1, r23.1, .bool false] r23.2) r23.2) fun r24 =>
 bd (bJ [r9.1, .bool true, r24.1] r24.2) fun r25 =>
 bd (au O jP [r5.1] r25.2) fun r26 =>
 bd (aS 0 [r26.1] r26.2) fun r27 =>
 bd (aS 1 [r26.1] r27.2) fun r28 =>
 bd (aG (ay r25.1 false) (bI [r28.1] r28.2) r28.2) fun r29 =>
 bd (aG (ay r25.1 false) (iH true true [r29.1, .aC] r29.2) r29.2) fun r30 =>
 bd (bJ [r25.1, .bool true, r30.1] r30.2) fun r31 =>
 aH r31.1
 (bd (au O bV [.int .i64 1] r31.2) fun r32 =>
 bd (gc (List.length m) [(.aO), (.int .i64 0), r32.1] r32.2) fun r33 => some (aN r33))
 (bd (au O jP [.str [48]] r31.2) fun r34 =>
 bd (aS 0 [r34.1] r34.2) fun r35 =>
 bd (aS 1 [r34.1] r35.2) fun r36 =>
 bd (kM .add [r5.1, r6.1] r36.2) fun r37 =>
 bd (au O jw [r37.1, .str [48]] r37.2) fun r38 =>
 bd (kM .neq [r38.1, .str []] r38.2) fun r39 =>
 jn (aH r39.1
 (bd (au O jP [r38.1] r39.2) fun r40 =>
 bd (aS 0 [r40.1] r40.2) fun r41 =>
 bd (aS 1 [r40.1] r41.2) fun r42 =>
 some (.normal, [r3.1, r6.1, r41.1], r42.2))
 (some (.normal, [r3.1, r6.1, r35.1], r39.2))) fun r43 =>
 dR r43.1
 (bd (aG (ay (hd r43.2.1) true) (bI [(hd (tl (tl r43.2.1)))] r43.2.2) r43.2.2) fun r45 =>
 bd (aG (ay (hd r43.2.1) true) (au O dX [r45.1] r45.2) r45.2) fun r46 =>
 bd (bJ [(hd r43.2.1), r46.1, .bool false] r46.2) fun r47 =>
 aH r47.1
 (bd (au O bV [.int .i64 1] r47.2) fun r48 =>
 bd (gc (List.length m) [(.aO), (.int .i64 0), r48.1] r48.2) fun r49 => some (aN r49))
 (bd (au O eU [(hd r43.2.1), (hd (tl (tl r43.2.1)))] r47.2) fun r50 =>
 bd (xY [(hd (tl r43.2.1))] r50.2) fun r51 =>
 bd (au O Hr [r51.1] r51.2) fun r52 =>
 bd (au O kJ [r50.1, r52.1] r52.2) fun r53 =>
 bd (aS 0 [r53.1] r53.2) fun r54 =>
 bd (aS 1 [r53.1] r54.2) fun r55 =>
 bd (xY [(hd (tl r43.2.1))] r55.2) fun r56 =>
 bd (gc (List.length m) [r54.1, r56.1, (.aC)] r56.2) fun r57 => some (aN r57)))
 (fun i44 => none)
 (none))
theorem ZN (O : aJ) (t0 : D) (m : Mem) : RU.step2 O [t0] m = iE O t0 m := by kernel_rfl
def Qr (O : aJ) (t0 t1 : D) (m : Mem) : RV :=
 bd (au O ng [t1] m) fun r1 =>
 bd (au O fM [t0, r1.1] r1.2) fun r2 =>
 bd (gc (List.length m) [r2.1] r2.2) fun r3 => some (aN r3)
theorem aa_ (O : aJ) (t0 t1 : D) (m : Mem) : F5.step2 O [t0, t1] m = Qr O t0 t1 m := by kernel_rfl
def JQ (O : aJ) (base : Nat) (t0 t5 t6 t7 : D) (m : Mem) : Option (Ex × List D × Mem) :=
 bd (kM .neq [t0, .str []] m) fun r1 =>
 aH r1.1
 (bd (WY false true [t0, t7] r1.2) fun r2 =>
 bd (au O jd [r2.1, .int .i64 10, .int .i64 64] r2.2) fun r3 =>
 bd (aS 0 [r3.1] r3.2) fun r4 =>
 bd (aS 1 [r3.1] r4.2) fun r5 =>
 bd (au O fK [t5, t6] r5.2) fun r6 =>
 bd (au O fD [r4.1] r6.2) fun r7 =>
 bd (au O iw [r6.1, r7.1] r7.2) fun r8 =>
 bd (WY true false [t0, t7] r8.2) fun r9 =>
 bd (gc base [r9.1, r8.1, t6, (.int .i64 18)] r9.2) fun r10 => O.loop [0, 5, 6, 7] [5] rD base r10.1 r10.2)
 (bd (gc base [t5] r1.2) fun r11 => some ((.exit 0), r11.1, r11.2))
theorem Q8 (O : aJ) (base : Nat) (t0 t5 t6 t7 : D) (m : Mem) : bY O [0, 5, 6, 7] [5] rD base [t0, t5, t6, t7] m = JQ O base t0 t5 t6 t7 m := by kernel_rfl
def uf (O : aJ) (t0 : D) (m : Mem) : RV :=
 bd (kM .eql [t0, .str []] m) fun r1 =>
 bd (aG (ay r1.1 false) (bI [t0] r1.2) r1.2) fun r2 =>
 bd (aG (ay r1.1 false) (xY [r2.1] r2.2) r2.2) fun r3 =>
 bd (aG (ay r1.1 false) (ak .gtr [r3.1, .int .i64 4000] r3.2) r3.2) fun r4 =>
 bd (bJ [r1.1, .bool true, r4.1] r4.2) fun r5 =>
 bd (aG (ay r5.1 false) (bI [t0] r5.2) r5.2) fun r6 =>
 bd (aG (ay r5.1 false) (xY [r6.1] r6.2) r6.2) fun r7 =>
 bd (aG (ay r5.1 false) (ak .gtr [r7.1, .int .i64 1] r7.2) r7.2) fun r8 =>
 bd (aG (ay r5.1 false) (bI [r8.1] r8.2) r8.2) fun r9 =>
 bd (aG (ay r9.1 true) (bI [t0] r9.2) r9.2) fun r10 =>
 bd (aG (ay r9.1 true) (Py [r10.1, .int .i64 0] r10.2) r10.2) fun r11 =>
 bd (aG (ay r9.1 true) (ak .eql [r11.1, .int .u8 48] r11.2) r11.2) fun r12 =>
 bd (aG (ay r5.1 false) (bJ [r9.1, r12.1, .bool false] r12.2) r12.2) fun r13 =>
 bd (bJ [r5.1, .bool true, r13.1] r13.2) fun r14 =>
 bd (aG (ay r14.1 false) (bI [t0] r14.2) r14.2) fun r15 =>
 bd (aG (ay r14.1 false) (au O jV [r15.1, .str [48, 49, 50, 51, 52, 53, 54, 55, 56, 57]] r15.2) r15.2) fun r16 =>
 bd (aG (ay r14.1 false) (kM .neq [r16.1, .str []] r16.2) r16.2) fun r17 =>
 bd (bJ [r14.1, .bool true, r17.1] r17.2) fun r18 =>
 aH r18.1
 (bd (au O bV [.int .i64 1] r18.2) fun r19 =>
 bd (gc (List.length m) [(.aO), r19.1] r19.2) fun r20 => some (aN r20))
 (bd (au O fD [.int .u64 0] r18.2) fun r21 =>
 bd (au O fD [.int .u64 1000000000000000000] r21.2) fun r22 =>
 bd (xY [t0] r22.2) fun r23 =>
 bd (ak .sub [r23.1, .int .i64 1] r23.2) fun r24 =>
 bd (ak .rem [r24.1, .int .i64 18] r24.2) fun r25 =>
 bd (ak .add [r25.1, .int .i64 1] r25.2) fun r26 =>
 jn (O.loop [0, 5, 6, 7] [5] rD (List.length r26.2) [t0, r21.1, r22.1, r26.1] r26.2) fun r27 =>
 dR (dL 0 r27.1)
 (bd (gc (List.length m) [(hd r27.2.1), (.aC)] r27.2.2) fun r29 => some (aN r29))
 (fun i28 => none)
 (none))
theorem ZO (O : aJ) (t0 : D) (m : Mem) : RZ.step2 O [t0] m = uf O t0 m := by kernel_rfl
def oq (O : aJ) (base : Nat) (t0 : D) (m : Mem) : Option (Ex × List D × Mem) :=
 bd (cZ [t0] m) fun r1 =>
 bd (ak .gtr [r1.1, .int .i64 0] r1.2) fun r2 =>
 bd (aG (ay r2.1 true) (bI [t0] r2.2) r2.2) fun r3 =>
 bd (aG (ay r2.1 true) (bI [t0] r3.2) r3.2) fun r4 =>
 bd (aG (ay r2.1 true) (cZ [r4.1] r4.2) r4.2) fun r5 =>
 bd (aG (ay r2.1 true) (ak .sub [r5.1, .int .i64 1] r5.2) r5.2) fun r6 =>
 bd (aG (ay r2.1 true) (bT 1 [r3.1, r6.1] r6.2) r6.2) fun r7 =>
 bd (aG (ay r2.1 true) (aB [r7.1] r7.2) r7.2) fun r8 =>
 bd (aG (ay r2.1 true) (ak .eql [r8.1, .int .u64 0] r8.2) r8.2) fun r9 =>
 bd (bJ [r2.1, r9.1, .bool false] r9.2) fun r10 =>
 aH r10.1
 (bd (cZ [t0] r10.2) fun r11 =>
 bd (ak .sub [r11.1, .int .i64 1] r11.2) fun r12 =>
 bd (DX 1 false true [t0, r12.1] r12.2) fun r13 =>
 bd (gc base [r13.1] r13.2) fun r14 => O.loop [0] [0] o7 base r14.1 r14.2)
 (bd (gc base [t0] r10.2) fun r15 => some ((.exit 0), r15.1, r15.2))
theorem y9 (O : aJ) (base : Nat) (t0 : D) (m : Mem) : bY O [0] [0] o7 base [t0] m = oq O base t0 m := by kernel_rfl
def PO (O : aJ) (t0 : D) (m : Mem) : RV :=
 jn (O.loop [0] [0] o7 (List.length m) [t0] m) fun r1 =>
 dR (dL 0 r1.1)
 (bd (jh [.sl 0 []] [(0, 1)] [(hd r1.2.1)] (r1.2.2 ++ [.free])) fun r4 =>
 bd (je (List.length r1.2.2) 0 [r4.1] r4.2) fun r5 =>
 bd (gc (List.length m) [r5.1] r5.2) fun r6 => some (aN r6))
 (fun i2 => none)
 (none)
theorem Xj (O : aJ) (t0 : D) (m : Mem) : OW.step2 O [t0] m = PO O t0 m := by kernel_rfl
def BF (O : aJ) (t0 : D) (m : Mem) : RV :=
 bd (Bh false [t0, .aO] m) fun r1 =>
 aH r1.1
 (bd (gc (List.length m) [(.sl 0 [])] r1.2) fun r2 => some (aN r2))
 (bd (lF [t0] r1.2) fun r3 =>
 bd (aK 0 [r3.1] r3.2) fun r4 =>
 bd (aB [r4.1] r4.2) fun r5 =>
 bd (gc (List.length m) [r5.1] r5.2) fun r6 => some (aN r6))
theorem Ku (O : aJ) (t0 : D) (m : Mem) : AU.step2 O [t0] m = BF O t0 m := by kernel_rfl
def qm (O : aJ) (base : Nat) (t0 t1 t5 : D) (m : Mem) : Option (Ex × List D × Mem) :=
 bd (ak .geq [t5, .int .i64 0] m) fun r1 =>
 aH r1.1
 (bd (bT 1 [t0, t5] r1.2) fun r2 =>
 bd (aB [r2.1] r2.2) fun r3 =>
 bd (bT 1 [t1, t5] r3.2) fun r4 =>
 bd (aB [r4.1] r4.2) fun r5 =>
 bd (ak .lss [r3.1, r5.1] r5.2) fun r6 =>
 aH r6.1
 (bd (gc base [(.int .i64 (-1))] r6.2) fun r7 => some (.ret, r7.1, r7.2))
 (bd (bT 1 [t0, t5] r6.2) fun r8 =>
 bd (aB [r8.1] r8.2) fun r9 =>
 bd (bT 1 [t1, t5] r9.2) fun r10 =>
 bd (aB [r10.1] r10.2) fun r11 =>
 bd (ak .gtr [r9.1, r11.1] r11.2) fun r12 =>
 aH r12.1
 (bd (gc base [(.int .i64 1)] r12.2) fun r13 => some (.ret, r13.1, r13.2))
 (bd (ak .sub [t5, .int .i64 1] r12.2) fun r14 =>
 bd (gc base [t0, t1, r14.1] r14.2) fun r15 => O.loop [0, 1, 5] [4] tC base r15.1 r15.2)))
 (bd (gc base [.undef] r1.2) fun r16 => some ((.exit 0), r16.1, r16.2))
theorem Ie (O : aJ) (base : Nat) (t0 t1 t5 : D) (m : Mem) : bY O [0, 1, 5] [4] tC base [t0, t1, t5] m = qm O base t0 t1 t5 m := by kernel_rfl
def Gs (O : aJ) (t0 t1 : D) (m : Mem) : RV :=
 bd (cZ [t0] m) fun r1 =>
 bd (cZ [t1] r1.2) fun r2 =>
 bd (ak .neq [r1.1, r2.1] r2.2) fun r3 =>
 aH r3.1
 (bd (cZ [t0] r3.2) fun r4 =>
 bd (cZ [t1] r4.2) fun r5 =>
 bd (ak .sub [r4.1, r5.1] r5.2) fun r6 =>
 bd (Yl [r6.1, .int .i64 (-1)] r6.2) fun r7 =>
 bd (Oc [r7.1, .int .i64 1] r7.2) fun r8 =>
 bd (gc (List.length m) [r8.1] r8.2) fun r9 => some (aN r9))
 (bd (cZ [t0] r3.2) fun r10 =>
 bd (ak .sub [r10.1, .int .i64 1] r10.2) fun r11 =>
 jn (O.loop [0, 1, 5] [4] tC (List.length r11.2) [t0, t1, r11.1] r11.2) fun r12 =>
 dR (dL 0 r12.1)
 (bd (gc (List.length m) [(.int .i64 0)] r12.2.2) fun r14 => some (aN r14))
 (fun i13 => none)
 (bd (gc (List.length m) [(hd r12.2.1)] r12.2.2) fun r15 => some (aN r15)))
theorem aa4 (O : aJ) (t0 t1 : D) (m : Mem) : FT.step2 O [t0, t1] m = Gs O t0 t1 m := by kernel_rfl
def rF (O : aJ) (base : Nat) (t0 t1 t5 : D) (m : Mem) : Option (Ex × List D × Mem) :=
 jn (bd (O.aY jB [t0, t1] m) fun r1 =>
 jn (bd (ak .eql [r1.1, .int .i64 0] r1.2) fun r2 =>
 jn (aH r2.1
 (bd (O.aY dK [t0] r2.2) fun r3 =>
 bd (au O nat_bit [t5] r3.2) fun r4 =>
 bd (kH O fK [r3.1, r4.1] r4.2) fun r5 =>
 some (.ret, [t0, t1, r5.1, t5], r5.2))
 (bd (ak .eql [r1.1, .int .i64 (-1)] r2.2) fun r6 =>
 jn (aH r6.1
 (some (.normal, [t1, t0, t5], r6.2))
 (some (.normal, [t0, t1, t5], r6.2))) fun r7 =>
 some (r7.1, [(hd r7.2.1), (hd (tl r7.2.1)), .undef, (hd (tl (tl r7.2.1)))], r7.2.2))) fun r8 =>
 some ((dL 2 r8.1), [(hd r8.2.1), (hd (tl r8.2.1)), (hd (tl (tl r8.2.1))), (hd (tl (tl (tl r8.2.1))))], r8.2.2)) fun r9 =>
 dR r9.1
 (bd (O.aY DL [(hd r9.2.1), (hd (tl r9.2.1))] r9.2.2) fun r11 =>
 bd (O.aY vT [r11.1] r11.2) fun r12 =>
 some (.normal, [r12.1, (hd (tl r9.2.1)), (hd (tl (tl r9.2.1))), (hd (tl (tl (tl r9.2.1))))], r12.2))
 (fun i10 => some ((dL 1 (.exit i10)), [(hd r9.2.1), (hd (tl r9.2.1)), (hd (tl (tl r9.2.1))), (hd (tl (tl (tl r9.2.1))))], r9.2.2))
 (some (.ret, [(hd r9.2.1), (hd (tl r9.2.1)), (hd (tl (tl r9.2.1))), (hd (tl (tl (tl r9.2.1))))], r9.2.2))) fun r13 =>
 dR r13.1
 (bd (gc base [(hd r13.2.1), (hd (tl r13.2.1)), (hd (tl (tl (tl r13.2.1))))] r13.2.2) fun r15 => O.loop [0, 1, 5] [4] qQ base r15.1 r15.2)
 (fun i14 => bd (gc base [(hd (tl (tl r13.2.1)))] r13.2.2) fun r16 => some ((.exit i14), r16.1, r16.2))
 (bd (gc base [(hd (tl (tl r13.2.1)))] r13.2.2) fun r17 => some (.ret, r17.1, r17.2))
theorem wF (O : aJ) (base : Nat) (t0 t1 t5 : D) (m : Mem) : bY O [0, 1, 5] [4] qQ base [t0, t1, t5] m = rF O base t0 t1 t5 m := by kernel_rfl
def TW (O : aJ) (t0 t1 : D) (m : Mem) : RV :=
 bd (O.aY uM [t0] m) fun r1 =>
 bd (O.aY uM [t1] r1.2) fun r2 =>
 bd (Oc [r1.1, r2.1] r2.2) fun r3 =>
 bd (O.aY dS [t0] r3.2) fun r4 =>
 bd (O.aY vT [r4.1] r4.2) fun r5 =>
 bd (O.aY dS [t1] r5.2) fun r6 =>
 bd (O.aY vT [r6.1] r6.2) fun r7 =>
 jn (O.loop [0, 1, 5] [4] qQ (List.length r7.2) [r5.1, r7.1, r3.1] r7.2) fun r8 =>
 dR (dL 0 r8.1)
 (bd (gc (List.length m) [(hd r8.2.1)] r8.2.2) fun r10 => some (aN r10))
 (fun i9 => none)
 (bd (gc (List.length m) [(hd r8.2.1)] r8.2.2) fun r11 => some (aN r11))
theorem acE (O : aJ) (t0 t1 : D) (m : Mem) : I4.step2 O [t0, t1] m = TW O t0 t1 m := by kernel_rfl
def D_ (O : aJ) (base : Nat) (t0 t1 t6 t7 t8 : D) (m : Mem) : Option (Ex × List D × Mem) :=
 bd (ak .geq [t8, .int .i64 0] m) fun r1 =>
 aH r1.1
 (bd (bT 1 [t0, t8] r1.2) fun r2 =>
 bd (aB [r2.1] r2.2) fun r3 =>
 bd (au O qZ [t7, r3.1, t1] r3.2) fun r4 =>
 bd (aS 0 [r4.1] r4.2) fun r5 =>
 bd (aS 1 [r4.1] r5.2) fun r6 =>
 bd (bT 1 [t6, t8] r6.2) fun r7 =>
 bd (bD 1 [r7.1, r5.1] r7.2) fun r8 =>
 bd (ak .sub [t8, .int .i64 1] r8.2) fun r9 =>
 bd (gc base [t0, t1, t6, r6.1, r9.1] r9.2) fun r10 => O.loop [0, 1, 6, 7, 8] [6, 7] xu base r10.1 r10.2)
 (bd (gc base [t6, t7] r1.2) fun r11 => some ((.exit 0), r11.1, r11.2))
theorem Ny (O : aJ) (base : Nat) (t0 t1 t6 t7 t8 : D) (m : Mem) : bY O [0, 1, 6, 7, 8] [6, 7] xu base [t0, t1, t6, t7, t8] m = D_ O base t0 t1 t6 t7 t8 m := by kernel_rfl
def VB (O : aJ) (t0 t1 : D) (m : Mem) : RV :=
 bd (cZ [t0] (m ++ [.free])) fun r2 =>
 bd (wK (List.length m) 0 1 [.int .u64 0] [r2.1, r2.1] r2.2) fun r3 =>
 bd (cZ [t0] r3.2) fun r4 =>
 bd (ak .sub [r4.1, .int .i64 1] r4.2) fun r5 =>
 jn (O.loop [0, 1, 6, 7, 8] [6, 7] xu (List.length r5.2) [t0, t1, r3.1, (.int .u64 0), r5.1] r5.2) fun r6 =>
 dR (dL 0 r6.1)
 (bd (gc (List.length m) [(hd r6.2.1), (hd (tl r6.2.1))] r6.2.2) fun r8 => some (aN r8))
 (fun i7 => none)
 (none)
theorem aeG (O : aJ) (t0 t1 : D) (m : Mem) : MN.step2 O [t0, t1] m = VB O t0 t1 m := by kernel_rfl
def zC (O : aJ) (base : Nat) (t1 t6 t7 t8 t9 t10 t11 t12 : D) (m : Mem) : Option (Ex × List D × Mem) :=
 aH t12
 (bd (bT 1 [t9, t10] m) fun r1 =>
 bd (aB [r1.1] r1.2) fun r2 =>
 bd (ak .sub [r2.1, .int .u64 1] r2.2) fun r3 =>
 bd (bT 1 [t9, t10] r3.2) fun r4 =>
 bd (bD 1 [r4.1, r3.1] r4.2) fun r5 =>
 bd (O.aY EN [t11, t8] r5.2) fun r6 =>
 bd (cZ [t8] r6.2) fun r7 =>
 bd (bT 1 [t11, r7.1] r7.2) fun r8 =>
 bd (aB [r8.1] r8.2) fun r9 =>
 bd (ak .neq [r9.1, .int .u64 0] r9.2) fun r10 =>
 bd (gc base [t1, t6, t7, t8, t9, t10, t11, r10.1] r10.2) fun r11 => O.loop [1, 6, 7, 8, 9, 10, 11, 12] [1, 6, 7, 8, 9, 10] rU base r11.1 r11.2)
 (bd (gc base [t1, t6, t7, t8, t9, t10] m) fun r12 => some ((.exit 2), r12.1, r12.2))
theorem Fb (O : aJ) (base : Nat) (t1 t6 t7 t8 t9 t10 t11 t12 : D) (m : Mem) : bY O [1, 6, 7, 8, 9, 10, 11, 12] [1, 6, 7, 8, 9, 10] rU base [t1, t6, t7, t8, t9, t10, t11, t12] m = zC O base t1 t6 t7 t8 t9 t10 t11 t12 m := by kernel_rfl
def Gt (O : aJ) (base : Nat) (t1 t6 t7 t8 t9 t10 : D) (m : Mem) : Option (Ex × List D × Mem) :=
 bd (ak .geq [t10, .int .i64 0] m) fun r1 =>
 aH r1.1
 (bd (cZ [t8] r1.2) fun r2 =>
 bd (ak .add [t10, r2.1] r2.2) fun r3 =>
 bd (ak .add [r3.1, .int .i64 1] r3.2) fun r4 =>
 bd (DX 1 true true [t7, t10, r4.1] r4.2) fun r5 =>
 bd (O.aY EP [r5.1, t8] r5.2) fun r6 =>
 bd (bT 1 [t9, t10] r6.2) fun r7 =>
 bd (bD 1 [r7.1, r6.1] r7.2) fun r8 =>
 bd (bT 1 [t9, t10] r8.2) fun r9 =>
 bd (aB [r9.1] r9.2) fun r10 =>
 bd (O.aY ES [r5.1, t8, r10.1] r10.2) fun r11 =>
 jn (O.loop [1, 6, 7, 8, 9, 10, 11, 12] [1, 6, 7, 8, 9, 10] rU (List.length r11.2) [t1, t6, t7, t8, t9, t10, r5.1, r11.1] r11.2) fun r12 =>
 dR (dL 1 (dL 2 r12.1))
 (bd (ak .sub [(hd (tl (tl (tl (tl (tl r12.2.1)))))), .int .i64 1] r12.2.2) fun r14 =>
 bd (gc base [(hd r12.2.1), (hd (tl r12.2.1)), (hd (tl (tl r12.2.1))), (hd (tl (tl (tl r12.2.1)))), (hd (tl (tl (tl (tl r12.2.1))))), r14.1] r14.2) fun r15 => O.loop [1, 6, 7, 8, 9, 10] [1, 6, 7, 9] yQ base r15.1 r15.2)
 (fun i13 => bd (gc base [(hd r12.2.1), (hd (tl r12.2.1)), (hd (tl (tl r12.2.1))), (hd (tl (tl (tl (tl r12.2.1)))))] r12.2.2) fun r16 => some ((.exit i13), r16.1, r16.2))
 (bd (gc base [(hd r12.2.1), (hd (tl r12.2.1)), (hd (tl (tl r12.2.1))), (hd (tl (tl (tl (tl r12.2.1)))))] r12.2.2) fun r17 => some (.ret, r17.1, r17.2)))
 (bd (gc base [t1, t6, t7, t9] r1.2) fun r18 => some ((.exit 0), r18.1, r18.2))
theorem P5 (O : aJ) (base : Nat) (t1 t6 t7 t8 t9 t10 : D) (m : Mem) : bY O [1, 6, 7, 8, 9, 10] [1, 6, 7, 9] yQ base [t1, t6, t7, t8, t9, t10] m = Gt O base t1 t6 t7 t8 t9 t10 m := by kernel_rfl
def Gu (O : aJ) (base : Nat) (t6 t7 t9 t13 t86 t87 : D) (m : Mem) : Option (Ex × List D × Mem) :=
 bd (ak .lss [t87, t86] m) fun r1 =>
 aH r1.1
 (bd (bT 1 [t7, t87] r1.2) fun r2 =>
 bd (aB [r2.1] r2.2) fun r3 =>
 bd (ji false [r3.1, t6] r3.2) fun r4 =>
 bd (ak .add [t87, .int .i64 1] r4.2) fun r5 =>
 bd (bT 1 [t7, r5.1] r5.2) fun r6 =>
 bd (aB [r6.1] r6.2) fun r7 =>
 bd (ji true [r7.1, .int .u64 1] r7.2) fun r8 =>
 bd (ak .sub [.int .i64 63, t6] r8.2) fun r9 =>
 bd (ji true [r8.1, r9.1] r9.2) fun r10 =>
 bd (ak .or [r4.1, r10.1] r10.2) fun r11 =>
 bd (bT 1 [t13, t87] r11.2) fun r12 =>
 bd (bD 1 [r12.1, r11.1] r12.2) fun r13 =>
 bd (ak .add [t87, .int .i64 1] r13.2) fun r14 =>
 bd (gc base [t6, t7, t9, t13, t86, r14.1] r14.2) fun r15 => O.loop [6, 7, 9, 13, 86, 87] [9, 13] yR base r15.1 r15.2)
 (bd (gc base [t9, t13] r1.2) fun r16 => some ((.exit 4), r16.1, r16.2))
theorem P6 (O : aJ) (base : Nat) (t6 t7 t9 t13 t86 t87 : D) (m : Mem) : bY O [6, 7, 9, 13, 86, 87] [9, 13] yR base [t6, t7, t9, t13, t86, t87] m = Gu O base t6 t7 t9 t13 t86 t87 m := by kernel_rfl
def Yw (O : aJ) (t0 t1 : D) (m : Mem) : RV :=
 bd (cZ [t1] m) fun r1 =>
 bd (ak .sub [r1.1, .int .i64 1] r1.2) fun r2 =>
 bd (bT 1 [t1, r2.1] r2.2) fun r3 =>
 bd (aB [r3.1] r3.2) fun r4 =>
 bd (au O bits_LeadingZeros64 [r4.1] r4.2) fun r5 =>
 bd (O.aY xq [t0, r5.1] r5.2) fun r6 =>
 bd (O.aY xq [t1, r5.1] r6.2) fun r7 =>
 bd (cZ [t1] r7.2) fun r8 =>
 bd (DX 1 false true [r7.1, r8.1] r8.2) fun r9 =>
 bd (cZ [t0] (r9.2 ++ [.free])) fun r11 =>
 bd (cZ [t1] r11.2) fun r12 =>
 bd (ak .sub [r11.1, r12.1] r12.2) fun r13 =>
 bd (ak .add [r13.1, .int .i64 1] r13.2) fun r14 =>
 bd (wK (List.length r9.2) 0 1 [.int .u64 0] [r14.1, r14.1] r14.2) fun r15 =>
 bd (cZ [r15.1] r15.2) fun r16 =>
 bd (ak .sub [r16.1, .int .i64 1] r16.2) fun r17 =>
 jn (O.loop [1, 6, 7, 8, 9, 10] [1, 6, 7, 9] yQ (List.length r17.2) [t1, r5.1, r6.1, r9.1, r15.1, r17.1] r17.2) fun r18 =>
 dR (dL 0 r18.1)
 (bd (cZ [(hd r18.2.1)] (r18.2.2 ++ [.free])) fun r21 =>
 bd (wK (List.length r18.2.2) 0 1 [.int .u64 0] [r21.1, r21.1] r21.2) fun r22 =>
 bd (cZ [r22.1] r22.2) fun r23 =>
 jn (O.loop [6, 7, 9, 13, 86, 87] [9, 13] yR (List.length r23.2) [(hd (tl r18.2.1)), (hd (tl (tl r18.2.1))), (hd (tl (tl (tl r18.2.1)))), r22.1, r23.1, (.int .i64 0)] r23.2) fun r24 =>
 dR (dL 4 r24.1)
 (bd (gc (List.length m) [(hd r24.2.1), (hd (tl r24.2.1))] r24.2.2) fun r26 => some (aN r26))
 (fun i25 => none)
 (none))
 (fun i19 => none)
 (none)
theorem agG (O : aJ) (t0 t1 : D) (m : Mem) : OV.step2 O [t0, t1] m = Yw O t0 t1 m := by kernel_rfl
def D5 (O : aJ) (t0 : D) (m : Mem) : RV :=
 bd (au O eH [t0] m) fun r1 =>
 bd (ak .geq [r1.1, .int .i64 0] r1.2) fun r2 =>
 bd (gc (List.length m) [r2.1] r2.2) fun r3 => some (aN r3)
theorem YK (O : aJ) (t0 : D) (m : Mem) : Cm.step2 O [t0] m = D5 O t0 m := by kernel_rfl
def JK (O : aJ) (t0 t1 t2 : D) (m : Mem) : RV :=
 bd (au O eG [t1] (m ++ [.free])) fun r2 =>
 bd (aS 0 [r2.1] r2.2) fun r3 =>
 bd (aS 1 [r2.1] r3.2) fun r4 =>
 bd (gG (List.length m) 0 [.int .i64 0, .int .i64 0, .int .i64 0] [] r4.2) fun r5 =>
 bd (bD 3 [r5.1, r3.1] r5.2) fun r6 =>
 bd (au O eG [t2] (r6.2 ++ [.free])) fun r8 =>
 bd (aS 0 [r8.1] r8.2) fun r9 =>
 bd (aS 1 [r8.1] r9.2) fun r10 =>
 bd (gG (List.length r6.2) 0 [.int .i64 0, .int .i64 0, .int .i64 0] [] r10.2) fun r11 =>
 bd (bD 3 [r11.1, r9.1] r11.2) fun r12 =>
 bd (iH true true [r4.1, .aC] r12.2) fun r13 =>
 bd (aG (ay r13.1 false) (bI [r10.1] r13.2) r13.2) fun r14 =>
 bd (aG (ay r13.1 false) (iH true true [r14.1, .aC] r14.2) r14.2) fun r15 =>
 bd (bJ [r13.1, .bool true, r15.1] r15.2) fun r16 =>
 bd (aG (ay r16.1 false) (bI [t0] r16.2) r16.2) fun r17 =>
 bd (aG (ay r16.1 false) (au O rC [r17.1] r17.2) r17.2) fun r18 =>
 bd (aG (ay r16.1 false) (iI [r18.1] r18.2) r18.2) fun r19 =>
 bd (bJ [r16.1, .bool true, r19.1] r19.2) fun r20 =>
 aH r20.1
 (bd (gc (List.length m) [(.int .i64 0)] r20.2) fun r21 => some (aN r21))
 (bd (ak .neq [t0, .int .i64 1] r20.2) fun r22 =>
 aH r22.1
 (bd (ak .sub [t2, t1] r22.2) fun r23 =>
 bd (gc (List.length m) [r23.1] r23.2) fun r24 => some (aN r24))
 (bd (aK 0 [r11.1] r22.2) fun r25 =>
 bd (aB [r25.1] r25.2) fun r26 =>
 bd (aK 0 [r5.1] r26.2) fun r27 =>
 bd (aB [r27.1] r27.2) fun r28 =>
 bd (ak .sub [r26.1, r28.1] r28.2) fun r29 =>
 bd (ak .mul [.int .i64 360, r29.1] r29.2) fun r30 =>
 bd (aK 1 [r11.1] r30.2) fun r31 =>
 bd (aB [r31.1] r31.2) fun r32 =>
 bd (aK 1 [r5.1] r32.2) fun r33 =>
 bd (aB [r33.1] r33.2) fun r34 =>
 bd (ak .sub [r32.1, r34.1] r34.2) fun r35 =>
 bd (ak .mul [.int .i64 30, r35.1] r35.2) fun r36 =>
 bd (ak .add [r30.1, r36.1] r36.2) fun r37 =>
 bd (aK 2 [r11.1] r37.2) fun r38 =>
 bd (aB [r38.1] r38.2) fun r39 =>
 bd (Oc [r39.1, .int .i64 30] r39.2) fun r40 =>
 bd (ak .add [r37.1, r40.1] r40.2) fun r41 =>
 bd (aK 2 [r5.1] r41.2) fun r42 =>
 bd (aB [r42.1] r42.2) fun r43 =>
 bd (Oc [r43.1, .int .i64 30] r43.2) fun r44 =>
 bd (ak .sub [r41.1, r44.1] r44.2) fun r45 =>
 bd (gc (List.length m) [r45.1] r45.2) fun r46 => some (aN r46)))
theorem acB (O : aJ) (t0 t1 t2 : D) (m : Mem) : IW.step2 O [t0, t1, t2] m = JK O t0 t1 t2 m := by kernel_rfl
def Yu (O : aJ) (t0 t1 : D) (m : Mem) : RV :=
 bd (je (List.length m) 0 [t0] (m ++ [.free])) fun r2 =>
 bd (dh 6 [r2.1] r2.2) fun r3 =>
 bd (au O I8 [r3.1] r3.2) fun r4 =>
 bd (iI [r4.1] r4.2) fun r5 =>
 aH r5.1
 (bd (gc (List.length m) [(.int .i64 0), (.bool false)] r5.2) fun r6 => some (aN r6))
 (bd (aK 0 [r2.1] r5.2) fun r7 =>
 bd (aB [r7.1] r7.2) fun r8 =>
 jn (bd (ak .eql [r8.1, .int .i64 1] r8.2) fun r9 =>
 jn (aH r9.1
 (bd (aK 1 [r2.1] r9.2) fun r10 =>
 bd (aB [r10.1] r10.2) fun r11 =>
 bd (aK 2 [r2.1] r11.2) fun r12 =>
 bd (aB [r12.1] r12.2) fun r13 =>
 bd (jh [.int .i64 0, .int .i64 0, .int .i64 0] [(0, 1), (1, 1), (2, 1)] [t1, r11.1, r13.1] r13.2) fun r14 =>
 bd (au O pF [r14.1] r14.2) fun r15 =>
 bd (aS 0 [r15.1] r15.2) fun r16 =>
 bd (aS 1 [r15.1] r16.2) fun r17 =>
 some (.normal, [r2.1, r16.1, (.bool true), r17.1], r17.2))
 (bd (ak .eql [r8.1, .int .i64 2] r9.2) fun r18 =>
 jn (aH r18.1
 (bd (dh 6 [r2.1] r18.2) fun r19 =>
 bd (au O WH [r19.1, t1] r19.2) fun r20 =>
 bd (aS 0 [r20.1] r20.2) fun r21 =>
 bd (aS 1 [r20.1] r21.2) fun r22 =>
 some (.normal, [r2.1, r21.1, r22.1, (.aC)], r22.2))
 (bd (ak .eql [r8.1, .int .i64 3] r18.2) fun r23 =>
 jn (aH r23.1
 (bd (au O zh [t1] r23.2) fun r24 =>
 bd (aS 0 [r24.1] r24.2) fun r25 =>
 bd (aS 1 [r24.1] r25.2) fun r26 =>
 bd (aK 3 [r2.1] r26.2) fun r27 =>
 bd (aB [r27.1] r27.2) fun r28 =>
 bd (ak .add [r25.1, r28.1] r28.2) fun r29 =>
 some (.normal, [r2.1, r29.1, (.bool true), r26.1], r29.2))
 (some (.normal, [r2.1, (.int .i64 0), (.bool true), (.aC)], r23.2))) fun r30 =>
 some (r30.1, [(hd r30.2.1), (hd (tl r30.2.1)), (hd (tl (tl r30.2.1))), (hd (tl (tl (tl r30.2.1))))], r30.2.2))) fun r31 =>
 some (r31.1, [(hd r31.2.1), (hd (tl r31.2.1)), (hd (tl (tl r31.2.1))), (hd (tl (tl (tl r31.2.1))))], r31.2.2))) fun r32 =>
 some ((dL 0 r32.1), [(hd r32.2.1), (hd (tl r32.2.1)), (hd (tl (tl r32.2.1))), (hd (tl (tl (tl r32.2.1))))], r32.2.2)) fun r33 =>
 dR r33.1
 (bd (iH true true [(hd (tl (tl (tl r33.2.1)))), .aC] r33.2.2) fun r35 =>
 bd (aG (ay r35.1 false) (bI [(hd (tl (tl r33.2.1)))] r35.2) r35.2) fun r36 =>
 bd (aG (ay r35.1 false) (iI [r36.1] r36.2) r36.2) fun r37 =>
 bd (bJ [r35.1, .bool true, r37.1] r37.2) fun r38 =>
 aH r38.1
 (bd (gc (List.length m) [(.int .i64 0), (.bool false)] r38.2) fun r39 => some (aN r39))
 (bd (aK 5 [(hd r33.2.1)] r38.2) fun r40 =>
 bd (aB [r40.1] r40.2) fun r41 =>
 jn (aH r41.1
 (bd (au O I9 [(hd (tl r33.2.1))] r41.2) fun r42 =>
 some (.normal, [r42.1], r42.2))
 (some (.normal, [(hd (tl r33.2.1))], r41.2))) fun r43 =>
 dR r43.1
 (bd (au O kT [(hd r43.2.1), .int .i64 0, .int .i64 109572] r43.2.2) fun r45 =>
 bd (iI [r45.1] r45.2) fun r46 =>
 aH r46.1
 (bd (gc (List.length m) [(.int .i64 0), (.bool false)] r46.2) fun r47 => some (aN r47))
 (bd (gc (List.length m) [(hd r43.2.1), (.bool true)] r46.2) fun r48 => some (aN r48)))
 (fun i44 => none)
 (none)))
 (fun i34 => none)
 (none))
theorem agE (O : aJ) (t0 t1 : D) (m : Mem) : OQ.step2 O [t0, t1] m = Yu O t0 t1 m := by kernel_rfl
def oz (O : aJ) (base : Nat) (t0 t2 t3 : D) (m : Mem) : Option (Ex × List D × Mem) :=
 bd (ak .lss [t2, t3] m) fun r1 =>
 aH r1.1
 (bd (bT 1 [t0, t3] r1.2) fun r2 =>
 bd (aB [r2.1] r2.2) fun r3 =>
 bd (bT 1 [t0, t2] r3.2) fun r4 =>
 bd (aB [r4.1] r4.2) fun r5 =>
 bd (bT 1 [t0, t2] r5.2) fun r6 =>
 bd (bD 1 [r6.1, r3.1] r6.2) fun r7 =>
 bd (bT 1 [t0, t3] r7.2) fun r8 =>
 bd (bD 1 [r8.1, r5.1] r8.2) fun r9 =>
 bd (ak .add [t2, .int .i64 1] r9.2) fun r10 =>
 bd (ak .sub [t3, .int .i64 1] r10.2) fun r11 =>
 bd (gc base [t0, r10.1, r11.1] r11.2) fun r12 => O.loop [0, 2, 3] [] fU base r12.1 r12.2)
 (bd (gc base [] r1.2) fun r13 => some ((.exit 0), r13.1, r13.2))
theorem uZ (O : aJ) (base : Nat) (t0 t2 t3 : D) (m : Mem) : bY O [0, 2, 3] [] fU base [t0, t2, t3] m = oz O base t0 t2 t3 m := by kernel_rfl
def yu (O : aJ) (t0 : D) (m : Mem) : RV :=
 bd (cZ [t0] m) fun r1 =>
 bd (ak .sub [r1.1, .int .i64 1] r1.2) fun r2 =>
 jn (O.loop [0, 2, 3] [] fU (List.length r2.2) [t0, (.int .i64 0), r2.1] r2.2) fun r3 =>
 dR (dL 0 r3.1)
 (bd (gc (List.length m) [] r3.2.2) fun r5 => some (aN r5))
 (fun i4 => none)
 (bd (gc (List.length m) [] r3.2.2) fun r6 => some (aN r6))
theorem J7 (O : aJ) (t0 : D) (m : Mem) : qI.step2 O [t0] m = yu O t0 m := by kernel_rfl
def aaB (O : aJ) (t0 : D) (m : Mem) : RV :=
 bd (au O fD [.int .u64 10] m) fun r1 =>
 bd (au O rQ [r1.1, t0] r1.2) fun r2 =>
 bd (au O eU [.bool false, r2.1] r2.2) fun r3 =>
 bd (gc (List.length m) [r3.1] r3.2) fun r4 => some (aN r4)
theorem ah1 (O : aJ) (t0 : D) (m : Mem) : RX.step2 O [t0] m = aaB O t0 m := by kernel_rfl
def Gv (O : aJ) (base : Nat) (t0 t3 : D) (m : Mem) : Option (Ex × List D × Mem) :=
 bd (bT 1 [t0, t3] m) fun r1 =>
 bd (aB [r1.1] r1.2) fun r2 =>
 bd (ak .eql [r2.1, .int .u64 0] r2.2) fun r3 =>
 aH r3.1
 (bd (ak .add [t3, .int .i64 1] r3.2) fun r4 =>
 bd (gc base [t0, r4.1] r4.2) fun r5 => O.loop [0, 3] [0, 3] vU base r5.1 r5.2)
 (bd (gc base [t0, t3] r3.2) fun r6 => some ((.exit 0), r6.1, r6.2))
theorem P7 (O : aJ) (base : Nat) (t0 t3 : D) (m : Mem) : bY O [0, 3] [0, 3] vU base [t0, t3] m = Gv O base t0 t3 m := by kernel_rfl
def Yx (O : aJ) (t0 : D) (m : Mem) : RV :=
 jn (O.loop [0, 3] [0, 3] vU (List.length m) [t0, (.int .i64 0)] m) fun r1 =>
 dR (dL 0 r1.1)
 (bd (ak .mul [.int .i64 64, (hd (tl r1.2.1))] r1.2.2) fun r3 =>
 bd (bT 1 [(hd r1.2.1), (hd (tl r1.2.1))] r3.2) fun r4 =>
 bd (aB [r4.1] r4.2) fun r5 =>
 bd (au O bits_TrailingZeros64 [r5.1] r5.2) fun r6 =>
 bd (ak .add [r3.1, r6.1] r6.2) fun r7 =>
 bd (gc (List.length m) [r7.1] r7.2) fun r8 => some (aN r8))
 (fun i2 => none)
 (none)
theorem agH (O : aJ) (t0 : D) (m : Mem) : OX.step2 O [t0] m = Yx O t0 m := by kernel_rfl
end Go.Ev.Code
end
section
namespace Go.Ev.Code
open Go Go.Ev
set_option maxRecDepth 100000
def BG (O : aJ) (base : Nat) (t0 t3 t14 t15 : D) (m : Mem) : Option (Ex × List D × Mem) :=
 bd (ak .lss [t15, t14] m) fun r1 =>
 aH r1.1
 (jn (bd (bT 1 [t0, t15] r1.2) fun r2 =>
 bd (aB [r2.1] r2.2) fun r3 =>
 bd (ji false [r3.1, t3] r3.2) fun r4 =>
 bd (bT 1 [t0, t15] r4.2) fun r5 =>
 bd (bD 1 [r5.1, r4.1] r5.2) fun r6 =>
 bd (ak .add [t15, .int .i64 1] r6.2) fun r7 =>
 bd (cZ [t0] r7.2) fun r8 =>
 bd (ak .lss [r7.1, r8.1] r8.2) fun r9 =>
 jn (aH r9.1
 (bd (bT 1 [t0, t15] r9.2) fun r10 =>
 bd (aB [r10.1] r10.2) fun r11 =>
 bd (ak .add [t15, .int .i64 1] r11.2) fun r12 =>
 bd (bT 1 [t0, r12.1] r12.2) fun r13 =>
 bd (aB [r13.1] r13.2) fun r14 =>
 bd (ji true [r14.1, .int .u64 1] r14.2) fun r15 =>
 bd (ak .sub [.int .i64 63, t3] r15.2) fun r16 =>
 bd (ji true [r15.1, r16.1] r16.2) fun r17 =>
 bd (ak .or [r11.1, r17.1] r17.2) fun r18 =>
 bd (bT 1 [t0, t15] r18.2) fun r19 =>
 bd (bD 1 [r19.1, r18.1] r19.2) fun r20 =>
 some (.normal, [t0, t3, t14, t15], r20.2))
 (some (.normal, [t0, t3, t14, t15], r9.2))) fun r21 =>
 some ((dL 1 r21.1), [(hd r21.2.1), (hd (tl r21.2.1)), (hd (tl (tl r21.2.1))), (hd (tl (tl (tl r21.2.1))))], r21.2.2)) fun r22 =>
 dR r22.1
 (bd (ak .add [(hd (tl (tl (tl r22.2.1)))), .int .i64 1] r22.2.2) fun r24 =>
 bd (gc base [(hd r22.2.1), (hd (tl r22.2.1)), (hd (tl (tl r22.2.1))), r24.1] r24.2) fun r25 => O.loop [0, 3, 14, 15] [0] xU base r25.1 r25.2)
 (fun i23 => bd (gc base [(hd r22.2.1)] r22.2.2) fun r26 => some ((.exit i23), r26.1, r26.2))
 (bd (gc base [(hd r22.2.1)] r22.2.2) fun r27 => some (.ret, r27.1, r27.2)))
 (bd (gc base [t0] r1.2) fun r28 => some ((.exit 0), r28.1, r28.2))
theorem Q9 (O : aJ) (base : Nat) (t0 t3 t14 t15 : D) (m : Mem) : bY O [0, 3, 14, 15] [0] xU base [t0, t3, t14, t15] m = BG O base t0 t3 t14 t15 m := by kernel_rfl
def aaD (O : aJ) (t0 : D) (m : Mem) : RV :=
 bd (O.aY uM [t0] m) fun r1 =>
 bd (ak .quo [r1.1, .int .i64 64] r1.2) fun r2 =>
 bd (DX 1 true false [t0, r2.1] r2.2) fun r3 =>
 bd (ak .rem [r1.1, .int .i64 64] r3.2) fun r4 =>
 bd (cZ [r3.1] r4.2) fun r5 =>
 jn (O.loop [0, 3, 14, 15] [0] xU (List.length r5.2) [r3.1, r4.1, r5.1, (.int .i64 0)] r5.2) fun r6 =>
 dR (dL 0 r6.1)
 (bd (O.aY dK [(hd r6.2.1)] r6.2.2) fun r8 =>
 bd (lF [r8.1] r8.2) fun r9 =>
 bd (aK 0 [r9.1] r9.2) fun r10 =>
 bd (aB [r10.1] r10.2) fun r11 =>
 bd (gc (List.length m) [r11.1] r11.2) fun r12 => some (aN r12))
 (fun i7 => none)
 (none)
theorem ah3 (O : aJ) (t0 : D) (m : Mem) : Si.step2 O [t0] m = aaD O t0 m := by kernel_rfl
def aaC (O : aJ) (t0 : D) (m : Mem) : RV :=
 bd (ak .quo [t0, .int .i64 64] (m ++ [.free])) fun r2 =>
 bd (ak .add [r2.1, .int .i64 1] r2.2) fun r3 =>
 bd (wK (List.length m) 0 1 [.int .u64 0] [r3.1, r3.1] r3.2) fun r4 =>
 bd (ak .quo [t0, .int .i64 64] r4.2) fun r5 =>
 bd (ak .rem [t0, .int .i64 64] r5.2) fun r6 =>
 bd (ji true [.int .u64 1, r6.1] r6.2) fun r7 =>
 bd (bT 1 [r4.1, r5.1] r7.2) fun r8 =>
 bd (bD 1 [r8.1, r7.1] r8.2) fun r9 =>
 bd (kH O dK [r4.1] r9.2) fun r10 =>
 bd (gc (List.length m) [r10.1] r10.2) fun r11 => some (aN r11)
theorem ah2 (O : aJ) (t0 : D) (m : Mem) : R_.step2 O [t0] m = aaC O t0 m := by kernel_rfl
def zB (O : aJ) (base : Nat) (t0 t1 t5 t9 t10 : D) (m : Mem) : Option (Ex × List D × Mem) :=
 bd (ak .lss [t10, t9] m) fun r1 =>
 aH r1.1
 (jn (bd (cZ [t1] r1.2) fun r2 =>
 bd (ak .lss [t10, r2.1] r2.2) fun r3 =>
 jn (aH r3.1
 (bd (bT 1 [t1, t10] r3.2) fun r4 =>
 bd (aB [r4.1] r4.2) fun r5 =>
 some (.normal, [t0, t1, t5, t10, r5.1, t9, t10], r5.2))
 (some (.normal, [t0, t1, t5, t10, (.int .u64 0), t9, t10], r3.2))) fun r6 =>
 dR r6.1
 (bd (bT 1 [(hd r6.2.1), (hd (tl (tl (tl r6.2.1))))] r6.2.2) fun r8 =>
 bd (aB [r8.1] r8.2) fun r9 =>
 bd (au O bits_Sub64 [r9.1, (hd (tl (tl (tl (tl r6.2.1))))), (hd (tl (tl r6.2.1)))] r9.2) fun r10 =>
 bd (aS 0 [r10.1] r10.2) fun r11 =>
 bd (aS 1 [r10.1] r11.2) fun r12 =>
 bd (bT 1 [(hd r6.2.1), (hd (tl (tl (tl r6.2.1))))] r12.2) fun r13 =>
 bd (bD 1 [r13.1, r11.1] r13.2) fun r14 =>
 some (.normal, [(hd r6.2.1), (hd (tl r6.2.1)), r12.1, (hd (tl (tl (tl (tl (tl r6.2.1)))))), (hd (tl (tl (tl (tl (tl (tl r6.2.1)))))))], r14.2))
 (fun i7 => some ((dL 1 (.exit i7)), [(hd r6.2.1), (hd (tl r6.2.1)), (hd (tl (tl r6.2.1))), (hd (tl (tl (tl (tl (tl r6.2.1)))))), (hd (tl (tl (tl (tl (tl (tl r6.2.1)))))))], r6.2.2))
 (some (.ret, [(hd r6.2.1), (hd (tl r6.2.1)), (hd (tl (tl r6.2.1))), (hd (tl (tl (tl (tl (tl r6.2.1)))))), (hd (tl (tl (tl (tl (tl (tl r6.2.1)))))))], r6.2.2))) fun r15 =>
 dR r15.1
 (bd (ak .add [(hd (tl (tl (tl (tl r15.2.1))))), .int .i64 1] r15.2.2) fun r17 =>
 bd (gc base [(hd r15.2.1), (hd (tl r15.2.1)), (hd (tl (tl r15.2.1))), (hd (tl (tl (tl r15.2.1)))), r17.1] r17.2) fun r18 => O.loop [0, 1, 5, 9, 10] [0] vS base r18.1 r18.2)
 (fun i16 => bd (gc base [(hd r15.2.1)] r15.2.2) fun r19 => some ((.exit i16), r19.1, r19.2))
 (bd (gc base [(hd r15.2.1)] r15.2.2) fun r20 => some (.ret, r20.1, r20.2)))
 (bd (gc base [t0] r1.2) fun r21 => some ((.exit 0), r21.1, r21.2))
theorem PZ (O : aJ) (base : Nat) (t0 t1 t5 t9 t10 : D) (m : Mem) : bY O [0, 1, 5, 9, 10] [0] vS base [t0, t1, t5, t9, t10] m = zB O base t0 t1 t5 t9 t10 m := by kernel_rfl
def Yv (O : aJ) (t0 t1 : D) (m : Mem) : RV :=
 bd (cZ [t0] m) fun r1 =>
 jn (O.loop [0, 1, 5, 9, 10] [0] vS (List.length r1.2) [t0, t1, (.int .u64 0), r1.1, (.int .i64 0)] r1.2) fun r2 =>
 dR (dL 0 r2.1)
 (bd (O.aY dK [(hd r2.2.1)] r2.2.2) fun r4 =>
 bd (lF [r4.1] r4.2) fun r5 =>
 bd (aK 0 [r5.1] r5.2) fun r6 =>
 bd (aB [r6.1] r6.2) fun r7 =>
 bd (gc (List.length m) [r7.1] r7.2) fun r8 => some (aN r8))
 (fun i3 => none)
 (none)
theorem agF (O : aJ) (t0 t1 : D) (m : Mem) : OU.step2 O [t0, t1] m = Yv O t0 t1 m := by kernel_rfl
def nT (O : aJ) (base : Nat) (t2 t8 t9 t10 t11 t13 t14 t15 t16 : D) (m : Mem) : Option (Ex × List D × Mem) :=
 bd (ak .geq [t15, .int .u64 4294967296] m) fun r1 =>
 bd (aG (ay r1.1 false) (bI [t15] r1.2) r1.2) fun r2 =>
 bd (aG (ay r1.1 false) (bI [t10] r2.2) r2.2) fun r3 =>
 bd (aG (ay r1.1 false) (ak .mul [r2.1, r3.1] r3.2) r3.2) fun r4 =>
 bd (aG (ay r1.1 false) (bI [t16] r4.2) r4.2) fun r5 =>
 bd (aG (ay r1.1 false) (ak .mul [.int .u64 4294967296, r5.1] r5.2) r5.2) fun r6 =>
 bd (aG (ay r1.1 false) (bI [t13] r6.2) r6.2) fun r7 =>
 bd (aG (ay r1.1 false) (ak .add [r6.1, r7.1] r7.2) r7.2) fun r8 =>
 bd (aG (ay r1.1 false) (ak .gtr [r4.1, r8.1] r8.2) r8.2) fun r9 =>
 bd (bJ [r1.1, .bool true, r9.1] r9.2) fun r10 =>
 aH r10.1
 (bd (ak .sub [t15, .int .u64 1] r10.2) fun r11 =>
 bd (ak .add [t16, t9] r11.2) fun r12 =>
 bd (ak .geq [r12.1, .int .u64 4294967296] r12.2) fun r13 =>
 aH r13.1
 (bd (gc base [t2, t8, t9, t10, t11, t13, t14, r11.1] r13.2) fun r14 => some ((.exit 0), r14.1, r14.2))
 (bd (gc base [t2, t8, t9, t10, t11, t13, t14, r11.1, r12.1] r13.2) fun r15 => O.loop [2, 8, 9, 10, 11, 13, 14, 15, 16] [2, 8, 9, 10, 11, 13, 14, 15] qM base r15.1 r15.2))
 (bd (gc base [t2, t8, t9, t10, t11, t13, t14, t15] r10.2) fun r16 => some ((.exit 0), r16.1, r16.2))
theorem Xf (O : aJ) (base : Nat) (t2 t8 t9 t10 t11 t13 t14 t15 t16 : D) (m : Mem) : bY O [2, 8, 9, 10, 11, 13, 14, 15, 16] [2, 8, 9, 10, 11, 13, 14, 15] qM base [t2, t8, t9, t10, t11, t13, t14, t15, t16] m = nT O base t2 t8 t9 t10 t11 t13 t14 t15 t16 m := by kernel_rfl
def nU (O : aJ) (base : Nat) (t2 t8 t9 t10 t14 t15 t16 t17 t18 : D) (m : Mem) : Option (Ex × List D × Mem) :=
 bd (ak .geq [t18, .int .u64 4294967296] m) fun r1 =>
 bd (aG (ay r1.1 false) (bI [t18] r1.2) r1.2) fun r2 =>
 bd (aG (ay r1.1 false) (bI [t10] r2.2) r2.2) fun r3 =>
 bd (aG (ay r1.1 false) (ak .mul [r2.1, r3.1] r3.2) r3.2) fun r4 =>
 bd (aG (ay r1.1 false) (bI [t16] r4.2) r4.2) fun r5 =>
 bd (aG (ay r1.1 false) (ak .mul [.int .u64 4294967296, r5.1] r5.2) r5.2) fun r6 =>
 bd (aG (ay r1.1 false) (bI [t14] r6.2) r6.2) fun r7 =>
 bd (aG (ay r1.1 false) (ak .add [r6.1, r7.1] r7.2) r7.2) fun r8 =>
 bd (aG (ay r1.1 false) (ak .gtr [r4.1, r8.1] r8.2) r8.2) fun r9 =>
 bd (bJ [r1.1, .bool true, r9.1] r9.2) fun r10 =>
 aH r10.1
 (bd (ak .sub [t18, .int .u64 1] r10.2) fun r11 =>
 bd (ak .add [t16, t9] r11.2) fun r12 =>
 bd (ak .geq [r12.1, .int .u64 4294967296] r12.2) fun r13 =>
 aH r13.1
 (bd (gc base [t2, t8, t14, t15, t17, r11.1] r13.2) fun r14 => some ((.exit 2), r14.1, r14.2))
 (bd (gc base [t2, t8, t9, t10, t14, t15, r12.1, t17, r11.1] r13.2) fun r15 => O.loop [2, 8, 9, 10, 14, 15, 16, 17, 18] [2, 8, 14, 15, 17, 18] qN base r15.1 r15.2))
 (bd (gc base [t2, t8, t14, t15, t17, t18] r10.2) fun r16 => some ((.exit 2), r16.1, r16.2))
theorem Xg (O : aJ) (base : Nat) (t2 t8 t9 t10 t14 t15 t16 t17 t18 : D) (m : Mem) : bY O [2, 8, 9, 10, 14, 15, 16, 17, 18] [2, 8, 14, 15, 17, 18] qN base [t2, t8, t9, t10, t14, t15, t16, t17, t18] m = nU O base t2 t8 t9 t10 t14 t15 t16 t17 t18 m := by kernel_rfl
def JG (O : aJ) (t0 t1 t2 : D) (m : Mem) : RV :=
 bd (ak .eql [t2, .int .u64 0] m) fun r1 =>
 jn (aH r1.1
 (none)
 (some (.normal, [t0, t1, t2], r1.2))) fun r2 =>
 dR r2.1
 (bd (ak .leq [(hd (tl (tl r2.2.1))), (hd r2.2.1)] r2.2.2) fun r4 =>
 jn (aH r4.1
 (none)
 (some (.normal, [(hd r2.2.1), (hd (tl r2.2.1)), (hd (tl (tl r2.2.1)))], r4.2))) fun r5 =>
 dR r5.1
 (bd (ak .eql [(hd r5.2.1), .int .u64 0] r5.2.2) fun r7 =>
 aH r7.1
 (bd (ak .quo [(hd (tl r5.2.1)), (hd (tl (tl r5.2.1)))] r7.2) fun r8 =>
 bd (ak .rem [(hd (tl r5.2.1)), (hd (tl (tl r5.2.1)))] r8.2) fun r9 =>
 bd (gc (List.length m) [r8.1, r9.1] r9.2) fun r10 => some (aN r10))
 (bd (au O bits_LeadingZeros64 [(hd (tl (tl r5.2.1)))] r7.2) fun r11 =>
 bd (LK .u64 [r11.1] r11.2) fun r12 =>
 bd (ji true [(hd (tl (tl r5.2.1))), r12.1] r12.2) fun r13 =>
 bd (ji false [r13.1, .int .u64 32] r13.2) fun r14 =>
 bd (ak .and [r13.1, .int .u64 4294967295] r14.2) fun r15 =>
 bd (ji true [(hd r5.2.1), r12.1] r15.2) fun r16 =>
 bd (ak .sub [.int .u64 64, r12.1] r16.2) fun r17 =>
 bd (ji false [(hd (tl r5.2.1)), r17.1] r17.2) fun r18 =>
 bd (ak .or [r16.1, r18.1] r18.2) fun r19 =>
 bd (ji true [(hd (tl r5.2.1)), r12.1] r19.2) fun r20 =>
 bd (ji false [r20.1, .int .u64 32] r20.2) fun r21 =>
 bd (ak .and [r20.1, .int .u64 4294967295] r21.2) fun r22 =>
 bd (ak .quo [r19.1, r14.1] r22.2) fun r23 =>
 bd (ak .mul [r23.1, r14.1] r23.2) fun r24 =>
 bd (ak .sub [r19.1, r24.1] r24.2) fun r25 =>
 jn (O.loop [2, 8, 9, 10, 11, 13, 14, 15, 16] [2, 8, 9, 10, 11, 13, 14, 15] qM (List.length r25.2) [r13.1, r12.1, r14.1, r15.1, r19.1, r21.1, r22.1, r23.1, r25.1] r25.2) fun r26 =>
 dR (dL 0 r26.1)
 (bd (ak .mul [(hd (tl (tl (tl (tl r26.2.1))))), .int .u64 4294967296] r26.2.2) fun r28 =>
 bd (ak .add [r28.1, (hd (tl (tl (tl (tl (tl r26.2.1))))))] r28.2) fun r29 =>
 bd (ak .mul [(hd (tl (tl (tl (tl (tl (tl (tl r26.2.1)))))))), (hd r26.2.1)] r29.2) fun r30 =>
 bd (ak .sub [r29.1, r30.1] r30.2) fun r31 =>
 bd (ak .quo [r31.1, (hd (tl (tl r26.2.1)))] r31.2) fun r32 =>
 bd (ak .mul [r32.1, (hd (tl (tl r26.2.1)))] r32.2) fun r33 =>
 bd (ak .sub [r31.1, r33.1] r33.2) fun r34 =>
 jn (O.loop [2, 8, 9, 10, 14, 15, 16, 17, 18] [2, 8, 14, 15, 17, 18] qN (List.length r34.2) [(hd r26.2.1), (hd (tl r26.2.1)), (hd (tl (tl r26.2.1))), (hd (tl (tl (tl r26.2.1)))), (hd (tl (tl (tl (tl (tl (tl r26.2.1))))))), (hd (tl (tl (tl (tl (tl (tl (tl r26.2.1)))))))), r34.1, r31.1, r32.1] r34.2) fun r35 =>
 dR (dL 2 r35.1)
 (bd (ak .mul [(hd (tl (tl (tl r35.2.1)))), .int .u64 4294967296] r35.2.2) fun r37 =>
 bd (ak .add [r37.1, (hd (tl (tl (tl (tl (tl r35.2.1))))))] r37.2) fun r38 =>
 bd (ak .mul [(hd (tl (tl (tl (tl r35.2.1))))), .int .u64 4294967296] r38.2) fun r39 =>
 bd (ak .add [r39.1, (hd (tl (tl r35.2.1)))] r39.2) fun r40 =>
 bd (ak .mul [(hd (tl (tl (tl (tl (tl r35.2.1)))))), (hd r35.2.1)] r40.2) fun r41 =>
 bd (ak .sub [r40.1, r41.1] r41.2) fun r42 =>
 bd (ji false [r42.1, (hd (tl r35.2.1))] r42.2) fun r43 =>
 bd (gc (List.length m) [r38.1, r43.1] r43.2) fun r44 => some (aN r44))
 (fun i36 => none)
 (none))
 (fun i27 => none)
 (none)))
 (fun i6 => none)
 (none))
 (fun i3 => none)
 (none)
theorem acw (O : aJ) (t0 t1 t2 : D) (m : Mem) : IQ.step2 O [t0, t1, t2] m = JG O t0 t1 t2 m := by kernel_rfl
def vC (O : aJ) (base : Nat) (t1 t5 t12 t13 t14 : D) (m : Mem) : Option (Ex × List D × Mem) :=
 bd (ak .lss [t14, t13] m) fun r1 =>
 aH r1.1
 (bd (bT 1 [t12, t14] r1.2) fun r2 =>
 bd (aB [r2.1] r2.2) fun r3 =>
 bd (bT 1 [t5, t14] r3.2) fun r4 =>
 bd (aB [r4.1] r4.2) fun r5 =>
 bd (ji true [r3.1, t1] r5.2) fun r6 =>
 bd (ak .or [r5.1, r6.1] r6.2) fun r7 =>
 bd (bT 1 [t5, t14] r7.2) fun r8 =>
 bd (bD 1 [r8.1, r7.1] r8.2) fun r9 =>
 bd (ak .add [t14, .int .i64 1] r9.2) fun r10 =>
 bd (ji false [r3.1, .int .u64 1] r10.2) fun r11 =>
 bd (ak .sub [.int .i64 63, t1] r11.2) fun r12 =>
 bd (ji false [r11.1, r12.1] r12.2) fun r13 =>
 bd (bT 1 [t5, r10.1] r13.2) fun r14 =>
 bd (bD 1 [r14.1, r13.1] r14.2) fun r15 =>
 bd (ak .add [t14, .int .i64 1] r15.2) fun r16 =>
 bd (gc base [t1, t5, t12, t13, r16.1] r16.2) fun r17 => O.loop [1, 5, 12, 13, 14] [5] vO base r17.1 r17.2)
 (bd (gc base [t5] r1.2) fun r18 => some ((.exit 0), r18.1, r18.2))
theorem y8 (O : aJ) (base : Nat) (t1 t5 t12 t13 t14 : D) (m : Mem) : bY O [1, 5, 12, 13, 14] [5] vO base [t1, t5, t12, t13, t14] m = vC O base t1 t5 t12 t13 t14 m := by kernel_rfl
def PN (O : aJ) (t0 t1 : D) (m : Mem) : RV :=
 bd (cZ [t0] (m ++ [.free])) fun r2 =>
 bd (ak .add [r2.1, .int .i64 1] r2.2) fun r3 =>
 bd (wK (List.length m) 0 1 [.int .u64 0] [r3.1, r3.1] r3.2) fun r4 =>
 bd (cZ [t0] r4.2) fun r5 =>
 jn (O.loop [1, 5, 12, 13, 14] [5] vO (List.length r5.2) [t1, r4.1, t0, r5.1, (.int .i64 0)] r5.2) fun r6 =>
 dR (dL 0 r6.1)
 (bd (gc (List.length m) [(hd r6.2.1)] r6.2.2) fun r8 => some (aN r8))
 (fun i7 => none)
 (none)
theorem Xi (O : aJ) (t0 t1 : D) (m : Mem) : OT.step2 O [t0, t1] m = PN O t0 t1 m := by kernel_rfl
def jD (O : aJ) (base : Nat) (t0 t5 t6 t7 t8 t9 : D) (m : Mem) : Option (Ex × List D × Mem) :=
 bd (au O bits_Mul64 [t8, t6] m) fun r1 =>
 bd (aS 0 [r1.1] r1.2) fun r2 =>
 bd (aS 1 [r1.1] r2.2) fun r3 =>
 bd (ak .lss [r2.1, t9] r3.2) fun r4 =>
 bd (aG (ay r4.1 false) (bI [r2.1] r4.2) r4.2) fun r5 =>
 bd (aG (ay r4.1 false) (bI [t9] r5.2) r5.2) fun r6 =>
 bd (aG (ay r4.1 false) (ak .eql [r5.1, r6.1] r6.2) r6.2) fun r7 =>
 bd (aG (ay r4.1 false) (bI [r7.1] r7.2) r7.2) fun r8 =>
 bd (aG (ay r8.1 true) (bI [r3.1] r8.2) r8.2) fun r9 =>
 bd (aG (ay r8.1 true) (bI [t0] r9.2) r9.2) fun r10 =>
 bd (aG (ay r8.1 true) (bI [t7] r10.2) r10.2) fun r11 =>
 bd (aG (ay r8.1 true) (ak .sub [r11.1, .int .i64 2] r11.2) r11.2) fun r12 =>
 bd (aG (ay r8.1 true) (bT 1 [r10.1, r12.1] r12.2) r12.2) fun r13 =>
 bd (aG (ay r8.1 true) (aB [r13.1] r13.2) r13.2) fun r14 =>
 bd (aG (ay r8.1 true) (ak .leq [r9.1, r14.1] r14.2) r14.2) fun r15 =>
 bd (aG (ay r4.1 false) (bJ [r8.1, r15.1, .bool false] r15.2) r15.2) fun r16 =>
 bd (bJ [r4.1, .bool true, r16.1] r16.2) fun r17 =>
 aH r17.1
 (bd (gc base [t8] r17.2) fun r18 => some (.ret, r18.1, r18.2))
 (bd (ak .sub [t8, .int .u64 1] r17.2) fun r19 =>
 bd (au O bits_Add64 [t9, t5, .int .u64 0] r19.2) fun r20 =>
 bd (aS 0 [r20.1] r20.2) fun r21 =>
 bd (aS 1 [r20.1] r21.2) fun r22 =>
 bd (ak .neq [r22.1, .int .u64 0] r22.2) fun r23 =>
 aH r23.1
 (bd (gc base [r19.1] r23.2) fun r24 => some (.ret, r24.1, r24.2))
 (bd (gc base [t0, t5, t6, t7, r19.1, r21.1] r23.2) fun r25 => O.loop [0, 5, 6, 7, 8, 9] [4] tH base r25.1 r25.2))
theorem xJ (O : aJ) (base : Nat) (t0 t5 t6 t7 t8 t9 : D) (m : Mem) : bY O [0, 5, 6, 7, 8, 9] [4] tH base [t0, t5, t6, t7, t8, t9] m = jD O base t0 t5 t6 t7 t8 t9 m := by kernel_rfl
def Nk (O : aJ) (t0 t1 : D) (m : Mem) : RV :=
 bd (cZ [t1] m) fun r1 =>
 bd (ak .sub [r1.1, .int .i64 1] r1.2) fun r2 =>
 bd (bT 1 [t1, r2.1] r2.2) fun r3 =>
 bd (aB [r3.1] r3.2) fun r4 =>
 bd (cZ [t1] r4.2) fun r5 =>
 bd (ak .sub [r5.1, .int .i64 2] r5.2) fun r6 =>
 bd (bT 1 [t1, r6.1] r6.2) fun r7 =>
 bd (aB [r7.1] r7.2) fun r8 =>
 bd (cZ [t0] r8.2) fun r9 =>
 bd (ak .sub [r9.1, .int .i64 1] r9.2) fun r10 =>
 bd (bT 1 [t0, r10.1] r10.2) fun r11 =>
 bd (aB [r11.1] r11.2) fun r12 =>
 bd (ak .geq [r12.1, r4.1] r12.2) fun r13 =>
 aH r13.1
 (bd (gc (List.length m) [(.int .u64 18446744073709551615)] r13.2) fun r14 => some (aN r14))
 (bd (bT 1 [t0, r10.1] r13.2) fun r15 =>
 bd (aB [r15.1] r15.2) fun r16 =>
 bd (ak .sub [r10.1, .int .i64 1] r16.2) fun r17 =>
 bd (bT 1 [t0, r17.1] r17.2) fun r18 =>
 bd (aB [r18.1] r18.2) fun r19 =>
 bd (au O qZ [r16.1, r19.1, r4.1] r19.2) fun r20 =>
 bd (aS 0 [r20.1] r20.2) fun r21 =>
 bd (aS 1 [r20.1] r21.2) fun r22 =>
 jn (O.loop [0, 5, 6, 7, 8, 9] [4] tH (List.length r22.2) [t0, r4.1, r8.1, r10.1, r21.1, r22.1] r22.2) fun r23 =>
 dR (dL 0 r23.1)
 (bd (gc (List.length m) [(hd r23.2.1)] r23.2.2) fun r25 => some (aN r25))
 (fun i24 => none)
 (bd (gc (List.length m) [(hd r23.2.1)] r23.2.2) fun r26 => some (aN r26)))
theorem U8 (O : aJ) (t0 t1 : D) (m : Mem) : ML.step2 O [t0, t1] m = Nk O t0 t1 m := by kernel_rfl
def Ea (O : aJ) (base : Nat) (t0 t1 t2 t7 t8 t14 t15 t16 : D) (m : Mem) : Option (Ex × List D × Mem) :=
 bd (ak .lss [t16, t15] m) fun r1 =>
 aH r1.1
 (bd (bT 1 [t14, t16] r1.2) fun r2 =>
 bd (aB [r2.1] r2.2) fun r3 =>
 bd (au O bits_Mul64 [t2, r3.1] r3.2) fun r4 =>
 bd (aS 0 [r4.1] r4.2) fun r5 =>
 bd (aS 1 [r4.1] r5.2) fun r6 =>
 bd (au O bits_Add64 [r6.1, t7, .int .u64 0] r6.2) fun r7 =>
 bd (aS 0 [r7.1] r7.2) fun r8 =>
 bd (aS 1 [r7.1] r8.2) fun r9 =>
 bd (ak .add [r5.1, r9.1] r9.2) fun r10 =>
 bd (bT 1 [t0, t16] r10.2) fun r11 =>
 bd (aB [r11.1] r11.2) fun r12 =>
 bd (au O bits_Sub64 [r12.1, r8.1, t8] r12.2) fun r13 =>
 bd (aS 0 [r13.1] r13.2) fun r14 =>
 bd (aS 1 [r13.1] r14.2) fun r15 =>
 bd (bT 1 [t0, t16] r15.2) fun r16 =>
 bd (bD 1 [r16.1, r14.1] r16.2) fun r17 =>
 bd (ak .add [t16, .int .i64 1] r17.2) fun r18 =>
 bd (gc base [t0, t1, t2, r10.1, r15.1, t14, t15, r18.1] r18.2) fun r19 => O.loop [0, 1, 2, 7, 8, 14, 15, 16] [0, 1, 7, 8] xw base r19.1 r19.2)
 (bd (gc base [t0, t1, t7, t8] r1.2) fun r20 => some ((.exit 0), r20.1, r20.2))
theorem Nz (O : aJ) (base : Nat) (t0 t1 t2 t7 t8 t14 t15 t16 : D) (m : Mem) : bY O [0, 1, 2, 7, 8, 14, 15, 16] [0, 1, 7, 8] xw base [t0, t1, t2, t7, t8, t14, t15, t16] m = Ea O base t0 t1 t2 t7 t8 t14 t15 t16 m := by kernel_rfl
def Nl (O : aJ) (t0 t1 t2 : D) (m : Mem) : RV :=
 bd (cZ [t1] m) fun r1 =>
 jn (O.loop [0, 1, 2, 7, 8, 14, 15, 16] [0, 1, 7, 8] xw (List.length r1.2) [t0, t1, t2, (.int .u64 0), (.int .u64 0), t1, r1.1, (.int .i64 0)] r1.2) fun r2 =>
 dR (dL 0 r2.1)
 (bd (cZ [(hd (tl r2.2.1))] r2.2.2) fun r4 =>
 bd (cZ [(hd (tl r2.2.1))] r4.2) fun r5 =>
 bd (bT 1 [(hd r2.2.1), r5.1] r5.2) fun r6 =>
 bd (aB [r6.1] r6.2) fun r7 =>
 bd (au O bits_Sub64 [r7.1, (hd (tl (tl r2.2.1))), (hd (tl (tl (tl r2.2.1))))] r7.2) fun r8 =>
 bd (aS 0 [r8.1] r8.2) fun r9 =>
 bd (aS 1 [r8.1] r9.2) fun r10 =>
 bd (bT 1 [(hd r2.2.1), r4.1] r10.2) fun r11 =>
 bd (bD 1 [r11.1, r9.1] r11.2) fun r12 =>
 bd (ak .neq [r10.1, .int .u64 0] r12.2) fun r13 =>
 bd (gc (List.length m) [r13.1] r13.2) fun r14 => some (aN r14))
 (fun i3 => none)
 (none)
theorem aeH (O : aJ) (t0 t1 t2 : D) (m : Mem) : MO.step2 O [t0, t1, t2] m = Nl O t0 t1 t2 m := by kernel_rfl
def D9 (O : aJ) (base : Nat) (t0 t1 t4 t7 t8 t9 : D) (m : Mem) : Option (Ex × List D × Mem) :=
 bd (ak .lss [t9, t8] m) fun r1 =>
 aH r1.1
 (bd (bT 1 [t7, t9] r1.2) fun r2 =>
 bd (aB [r2.1] r2.2) fun r3 =>
 bd (bT 1 [t0, t9] r3.2) fun r4 =>
 bd (aB [r4.1] r4.2) fun r5 =>
 bd (au O bits_Add64 [r5.1, r3.1, t4] r5.2) fun r6 =>
 bd (aS 0 [r6.1] r6.2) fun r7 =>
 bd (aS 1 [r6.1] r7.2) fun r8 =>
 bd (bT 1 [t0, t9] r8.2) fun r9 =>
 bd (bD 1 [r9.1, r7.1] r9.2) fun r10 =>
 bd (ak .add [t9, .int .i64 1] r10.2) fun r11 =>
 bd (gc base [t0, t1, r8.1, t7, t8, r11.1] r11.2) fun r12 => O.loop [0, 1, 4, 7, 8, 9] [0, 1, 4] xk base r12.1 r12.2)
 (bd (gc base [t0, t1, t4] r1.2) fun r13 => some ((.exit 0), r13.1, r13.2))
theorem Nw (O : aJ) (base : Nat) (t0 t1 t4 t7 t8 t9 : D) (m : Mem) : bY O [0, 1, 4, 7, 8, 9] [0, 1, 4] xk base [t0, t1, t4, t7, t8, t9] m = D9 O base t0 t1 t4 t7 t8 t9 m := by kernel_rfl
def VA (O : aJ) (t0 t1 : D) (m : Mem) : RV :=
 bd (cZ [t1] m) fun r1 =>
 jn (O.loop [0, 1, 4, 7, 8, 9] [0, 1, 4] xk (List.length r1.2) [t0, t1, (.int .u64 0), t1, r1.1, (.int .i64 0)] r1.2) fun r2 =>
 dR (dL 0 r2.1)
 (bd (cZ [(hd (tl r2.2.1))] r2.2.2) fun r4 =>
 bd (bT 1 [(hd r2.2.1), r4.1] r4.2) fun r5 =>
 bd (aB [r5.1] r5.2) fun r6 =>
 bd (ak .add [r6.1, (hd (tl (tl r2.2.1)))] r6.2) fun r7 =>
 bd (bT 1 [(hd r2.2.1), r4.1] r7.2) fun r8 =>
 bd (bD 1 [r8.1, r7.1] r8.2) fun r9 =>
 bd (gc (List.length m) [] r9.2) fun r10 => some (aN r10))
 (fun i3 => none)
 (bd (gc (List.length m) [] r2.2.2) fun r11 => some (aN r11))
theorem aeF (O : aJ) (t0 t1 : D) (m : Mem) : MK.step2 O [t0, t1] m = VA O t0 t1 m := by kernel_rfl
def Qk (O : aJ) (t0 t1 t2 : D) (m : Mem) : RV :=
 bd (ak .geq [t0, t1] m) fun r1 =>
 bd (aG (ay r1.1 true) (bI [t0] r1.2) r1.2) fun r2 =>
 bd (aG (ay r1.1 true) (bI [t2] r2.2) r2.2) fun r3 =>
 bd (aG (ay r1.1 true) (ak .leq [r2.1, r3.1] r3.2) r3.2) fun r4 =>
 bd (bJ [r1.1, r4.1, .bool false] r4.2) fun r5 =>
 bd (gc (List.length m) [r5.1] r5.2) fun r6 => some (aN r6)
theorem aaW (O : aJ) (t0 t1 t2 : D) (m : Mem) : FD.step2 O [t0, t1, t2] m = Qk O t0 t1 t2 m := by kernel_rfl
def ql (O : aJ) (base : Nat) (t1 t5 t6 : D) (m : Mem) : Option (Ex × List D × Mem) :=
 bd (ak .gtr [t1, .int .i64 0] m) fun r1 =>
 aH r1.1
 (jn (bd (ak .and [t1, .int .i64 1] r1.2) fun r2 =>
 bd (ak .eql [r2.1, .int .i64 1] r2.2) fun r3 =>
 jn (aH r3.1
 (bd (au O fK [t5, t6] r3.2) fun r4 =>
 some (.normal, [t1, r4.1, t6], r4.2))
 (some (.normal, [t1, t5, t6], r3.2))) fun r5 =>
 dR r5.1
 (bd (ak .gtr [(hd r5.2.1), .int .i64 1] r5.2.2) fun r7 =>
 jn (aH r7.1
 (bd (au O fK [(hd (tl (tl r5.2.1))), (hd (tl (tl r5.2.1)))] r7.2) fun r8 =>
 some (.normal, [(hd r5.2.1), (hd (tl r5.2.1)), r8.1], r8.2))
 (some (.normal, [(hd r5.2.1), (hd (tl r5.2.1)), (hd (tl (tl r5.2.1)))], r7.2))) fun r9 =>
 some ((dL 1 r9.1), [(hd r9.2.1), (hd (tl r9.2.1)), (hd (tl (tl r9.2.1)))], r9.2.2))
 (fun i6 => some ((dL 1 (.exit i6)), [(hd r5.2.1), (hd (tl r5.2.1)), (hd (tl (tl r5.2.1)))], r5.2.2))
 (some (.ret, [(hd r5.2.1), (hd (tl r5.2.1)), (hd (tl (tl r5.2.1)))], r5.2.2))) fun r10 =>
 dR r10.1
 (bd (ji false [(hd r10.2.1), .int .u64 1] r10.2.2) fun r12 =>
 bd (gc base [r12.1, (hd (tl r10.2.1)), (hd (tl (tl r10.2.1)))] r12.2) fun r13 => O.loop [1, 5, 6] [5] pK base r13.1 r13.2)
 (fun i11 => bd (gc base [(hd (tl r10.2.1))] r10.2.2) fun r14 => some ((.exit i11), r14.1, r14.2))
 (bd (gc base [(hd (tl r10.2.1))] r10.2.2) fun r15 => some (.ret, r15.1, r15.2)))
 (bd (gc base [t5] r1.2) fun r16 => some ((.exit 0), r16.1, r16.2))
theorem um (O : aJ) (base : Nat) (t1 t5 t6 : D) (m : Mem) : bY O [1, 5, 6] [5] pK base [t1, t5, t6] m = ql O base t1 t5 t6 m := by kernel_rfl
def Qn (O : aJ) (t0 t1 : D) (m : Mem) : RV :=
 bd (au O fD [.int .u64 1] m) fun r1 =>
 jn (O.loop [1, 5, 6] [5] pK (List.length r1.2) [t1, r1.1, t0] r1.2) fun r2 =>
 dR (dL 0 r2.1)
 (bd (gc (List.length m) [(hd r2.2.1)] r2.2.2) fun r4 => some (aN r4))
 (fun i3 => none)
 (none)
theorem aa2 (O : aJ) (t0 t1 : D) (m : Mem) : FP.step2 O [t0, t1] m = Qn O t0 t1 m := by kernel_rfl
end Go.Ev.Code
end
section
end
