/- A part of the proof of the theorem yieldNone_card. -/
import Derived.Test.YtjjogojaemahkaaGreatDoorSpD1
import Derived.Test.YtjjogojaemahkaaGreatDoorSpD2
set_option linter.unusedVariables false
set_option linter.unusedSimpArgs false
namespace Go.Ev.Code
open Go Go.Ev
theorem ft {n : Nat} (h : NB 64000 n) : Fit n := h.fit (by decide)
theorem wr {n : Nat} (h : NB 64000 n) : Wri n := h.wri (by decide) (by decide)
def acc_nat_Of : List D → Option D := a1 decU fun n => some (natD n)
theorem good_nat_Of : Good nat_Of acc_nat_Of := a1_ok fun x n d hx hf => by
      rw [(decU_ok hx).1, ← Option.some.inj hf]; exact nat_Of_ok n (decU_ok hx).2
def acc_nat_Nat_Zero : List D → Option D := a1 decN fun n => some (.bool (Nat.beq n 0))
theorem good_nat_Nat_Zero : Good nat_Nat_Zero acc_nat_Nat_Zero := n1_ok fun a d ha hf => by
      rw [← Option.some.inj hf, nat_Zero_ok]
      congr 2
      by_cases h : a = 0
      · subst h; rfl
      · rw [decide_eq_false h]
        cases hb : Nat.beq a 0 with
        | false => rfl
        | true => exact absurd (Nat.eq_of_beq_eq_true hb) h
def acc_nat_Nat_Cmp : List D → Option D := a2 decN decN fun a b => some (.int .i64 (cmpI a b))
theorem good_nat_Nat_Cmp : Good nat_Nat_Cmp acc_nat_Nat_Cmp := n2_ok fun a b d ha hb hf => by rw [← Option.some.inj hf]; exact nat_Cmp_ok (ft ha) (ft hb)
def acc_nat_Nat_Add : List D → Option D := a2 decN decN fun a b => some (natD (a + b))
theorem good_nat_Nat_Add : Good nat_Nat_Add acc_nat_Nat_Add := n2_ok fun a b d ha hb hf => by rw [← Option.some.inj hf]; exact nat_Add_ok (ft ha) (ft hb)
def acc_nat_Nat_Sub : List D → Option D := a2 decN decN fun a b => if b ≤ a then some (.tup [natD (a - b), .nili]) else none
theorem good_nat_Nat_Sub : Good nat_Nat_Sub acc_nat_Nat_Sub := n2_ok fun a b d ha hb hf => by
      split at hf <;> try (simp at hf; done)
      rw [← Option.some.inj hf]; exact nat_Sub_ok (ft ha) (ft hb) (by assumption)
def acc_nat_Nat_Mul : List D → Option D := a2 decN decN fun a b => some (natD (a * b))
theorem good_nat_Nat_Mul : Good nat_Nat_Mul acc_nat_Nat_Mul := n2_ok fun a b d ha hb hf => by rw [← Option.some.inj hf]; exact nat_Mul_ok (ft ha) (ft hb)
def acc_nat_Nat_Div : List D → Option D := a2 decN decN fun a b => if b ≠ 0 then some (.tup [natD (a / b), natD (a % b), .nili]) else none
theorem good_nat_Nat_Div : Good nat_Nat_Div acc_nat_Nat_Div := n2_ok fun a b d ha hb hf => by
      split at hf <;> try (simp at hf; done)
      rw [← Option.some.inj hf]; exact nat_Div_ok (ft ha) (ft hb) (by assumption)
def acc_nat_Nat_Gcd : List D → Option D := a2 decN decN fun a b => some (natD (Nat.gcd a b))
theorem good_nat_Nat_Gcd : Good nat_Nat_Gcd acc_nat_Nat_Gcd := n2_ok fun a b d ha hb hf => by rw [← Option.some.inj hf]; exact nat_Gcd_ok (ft ha) (ft hb)
def acc_nat_Nat_Text : List D → Option D := a1 decN fun a => some (.str (txt a))
theorem good_nat_Nat_Text : Good nat_Nat_Text acc_nat_Nat_Text := n1_ok fun a d ha hf => by rw [← Option.some.inj hf]; exact nat_Text_ok (ft ha) (wr ha)
def acc_nat_Get : List D → Option D := a1 decS fun s => if IsNum s then some (.tup [natD (numF 0 s), .nili]) else some (.tup [.nilp, errD 1])
theorem good_nat_Get : Good nat_Get acc_nat_Get := a1_ok fun x s d hx hf => by
      obtain ⟨rfl, hs⟩ := decS_ok hx
      split at hf
      · rw [← Option.some.inj hf]; exact nat_Get_ok (by assumption)
      · rw [← Option.some.inj hf]; exact nat_Get_bad (by assumption) (by omega)
def acc_num_New : List D → Option D := a2 decB decN fun b n => some (intD (if b then -(n : Int) else n))
theorem good_num_New : Good num_New acc_num_New := a2_ok fun x y b n d hx hy hf => by rw [decB_ok hx, (decN_ok hy).1, ← Option.some.inj hf]; exact num_New_ok b n
def acc_num_Int_Abs : List D → Option D := a1 decI fun z => some (natD z.natAbs)
theorem good_num_Int_Abs : Good num_Int_Abs acc_num_Int_Abs := i1_ok fun a d ha hf => by rw [← Option.some.inj hf]; exact num_Abs_ok a
def acc_num_Int_Sign : List D → Option D := a1 decI fun z => some (.int .i64 z.sign)
theorem good_num_Int_Sign : Good num_Int_Sign acc_num_Int_Sign := i1_ok fun a d ha hf => by rw [← Option.some.inj hf]; exact num_Sign_ok a
def acc_num_Int_Neg : List D → Option D := a1 decI fun z => some (intD (-z))
theorem good_num_Int_Neg : Good num_Int_Neg acc_num_Int_Neg := i1_ok fun a d ha hf => by rw [← Option.some.inj hf]; exact num_Neg_ok a
def acc_num_Int_Add : List D → Option D := a2 decI decI fun a b => some (intD (a + b))
theorem good_num_Int_Add : Good num_Int_Add acc_num_Int_Add := i2_ok fun a b d ha hb hf => by rw [← Option.some.inj hf]; exact num_Add_ok ha hb (by decide) (by decide)
def acc_num_Int_Sub : List D → Option D := a2 decI decI fun a b => some (intD (a - b))
theorem good_num_Int_Sub : Good num_Int_Sub acc_num_Int_Sub := i2_ok fun a b d ha hb hf => by rw [← Option.some.inj hf]; exact num_Sub_ok ha hb (by decide) (by decide)
def acc_num_Int_Cmp : List D → Option D := a2 decI decI fun a b => some (.int .i64 (a - b).sign)
theorem good_num_Int_Cmp : Good num_Int_Cmp acc_num_Int_Cmp := i2_ok fun a b d ha hb hf => by rw [← Option.some.inj hf]; exact num_Cmp_ok ha hb (by decide) (by decide)
def acc_num_Int_Mul : List D → Option D := a2 decI decI fun a b => some (intD (a * b))
theorem good_num_Int_Mul : Good num_Int_Mul acc_num_Int_Mul := i2_ok fun a b d ha hb hf => by rw [← Option.some.inj hf]; exact num_Mul_ok ha hb (by decide) (by decide)
def acc_num_Of : List D → Option D := a1 dec64 fun n => some (intD n)
theorem good_num_Of : Good num_Of acc_num_Of := a1_ok fun x n d hx hf => by rw [(dec64_ok hx).1, ← Option.some.inj hf]; exact num_Of_ok n (dec64_ok hx).2
def acc_num_Int_Text : List D → Option D := a1 decI fun z => some (.str (txtI z))
theorem good_num_Int_Text : Good num_Int_Text acc_num_Int_Text := i1_ok fun a d ha hf => by rw [← Option.some.inj hf]; exact num_Text_ok ha (by decide) (by decide)
def acc_rat_New : List D → Option D := a2 decI decI fun n d => if d ≠ 0 then some (.tup [ratD (Rat.divInt n d), .nili]) else none
theorem good_rat_New : Good rat_New acc_rat_New := i2_ok fun a b d ha hb hf => by
      split at hf <;> try (simp at hf; done)
      rw [← Option.some.inj hf]; exact rat_New_ok ha hb (by decide) (by decide) (by assumption)
def acc_rat_sure : List D → Option D := a2 decI decI fun n d => if d ≠ 0 then some (ratD (Rat.divInt n d)) else none
theorem good_rat_sure : Good rat_sure acc_rat_sure := i2_ok fun a b d ha hb hf => by
      split at hf <;> try (simp at hf; done)
      rw [← Option.some.inj hf]; exact rat_sure_ok ha hb (by decide) (by decide) (by assumption)
def acc_rat_Of : List D → Option D := a2 dec64 dec64 fun n d => if d ≠ 0 then some (.tup [ratD (Rat.divInt n d), .nili]) else none
theorem good_rat_Of : Good rat_Of acc_rat_Of := a2_ok fun x y a b d hx hy hf => by
      split at hf <;> try (simp at hf; done)
      rw [(dec64_ok hx).1, (dec64_ok hy).1, ← Option.some.inj hf]
      exact rat_Of_ok (dec64_ok hx).2 (dec64_ok hy).2 (by assumption)
def acc_rat_Rat_Num : List D → Option D := a1 decQ fun q => some (intD q.num)
theorem good_rat_Rat_Num : Good rat_Rat_Num acc_rat_Rat_Num := q1_ok fun a d ha hf => by rw [← Option.some.inj hf]; exact rat_Num_ok a
def acc_rat_Rat_Den : List D → Option D := a1 decQ fun q => some (intD (q.den : Int))
theorem good_rat_Rat_Den : Good rat_Rat_Den acc_rat_Rat_Den := q1_ok fun a d ha hf => by rw [← Option.some.inj hf]; exact rat_Den_ok a
def acc_rat_Rat_Sign : List D → Option D := a1 decQ fun q => some (.int .i64 q.num.sign)
theorem good_rat_Rat_Sign : Good rat_Rat_Sign acc_rat_Rat_Sign := q1_ok fun a d ha hf => by rw [← Option.some.inj hf]; exact rat_Sign_ok a
def acc_rat_Rat_Add : List D → Option D := a2 decQ decQ fun a b => some (ratD (a + b))
theorem good_rat_Rat_Add : Good rat_Rat_Add acc_rat_Rat_Add := q2_ok fun a b d ha hb hf => by rw [← Option.some.inj hf]; exact rat_Add_ok ha hb (by decide)
def acc_rat_Rat_Sub : List D → Option D := a2 decQ decQ fun a b => some (ratD (a - b))
theorem good_rat_Rat_Sub : Good rat_Rat_Sub acc_rat_Rat_Sub := q2_ok fun a b d ha hb hf => by rw [← Option.some.inj hf]; exact rat_Sub_ok ha hb (by decide)
def acc_rat_Rat_Mul : List D → Option D := a2 decQ decQ fun a b => some (ratD (a * b))
theorem good_rat_Rat_Mul : Good rat_Rat_Mul acc_rat_Rat_Mul := q2_ok fun a b d ha hb hf => by rw [← Option.some.inj hf]; exact rat_Mul_ok ha hb (by decide)
def acc_rat_Rat_Div : List D → Option D := a2 decQ decQ fun a b => if b.num = 0 then none else some (.tup [ratD (a / b), .nili])
theorem good_rat_Rat_Div : Good rat_Rat_Div acc_rat_Rat_Div := q2_ok fun a b d ha hb hf => by
      split at hf <;> try (simp at hf; done)
      rename_i h0
      rw [← Option.some.inj hf]; exact rat_Div_ok ha hb (by decide) (fun h => h0 (by rw [h]; rfl))
def acc_rat_Rat_Cmp : List D → Option D := a2 decQ decQ fun a b => some (.int .i64 (cmpQ a b))
theorem good_rat_Rat_Cmp : Good rat_Rat_Cmp acc_rat_Rat_Cmp := q2_ok fun a b d ha hb hf => by rw [← Option.some.inj hf]; exact rat_Cmp_ok ha hb (by decide)
def acc_rat_Rat_Text : List D → Option D := a1 decQ fun q => some (.str (txtQ q))
theorem good_rat_Rat_Text : Good rat_Rat_Text acc_rat_Rat_Text := q1_ok fun a d ha hf => by rw [← Option.some.inj hf]; exact rat_Text_ok ha (by decide) (by decide)
def acc_dec_Get : List D → Option D := a1 decS fun s => some (decD (decOf s))
theorem good_dec_Get : Good dec_Get acc_dec_Get := a1_ok fun x s d hx hf => by
      obtain ⟨rfl, hs⟩ := decS_ok hx
      rw [← Option.some.inj hf]; exact dec_Get_ok (by omega)
def decBond : D → Option Bond
  | .agg [.int .i64 i, .int .i64 m, .int .i64 f, .str c, .str r, .int .i64 n, .int .i64 s, .bool e, .int .i64 x] => if c.length ≤ 1000 ∧ r.length ≤ 1000 then some ⟨i, m, f, c, r, n, s, e, x⟩ else none
  | _ => none
theorem decBond_ok {d : D} {b : Bond} (h : decBond d = some b) : d = bondD b ∧ b.coupon.length ≤ 1000000 ∧ b.redeem.length ≤ 1000000 := by
  unfold decBond at h
  split at h <;> try (simp at h; done)
  split at h <;> try (simp at h; done)
  rename_i hl
  simp at h
  subst h
  exact ⟨rfl, by simp only; omega, by simp only; omega⟩
theorem b1_ok {f : Bond → Option D} {g : Nat} (h : ∀ b d, b.coupon.length ≤ 1000000 → b.redeem.length ≤ 1000000 → f b = some d → L.call g [bondD b] = some d) : Good g (a1 decBond f) :=
  a1_ok fun x a d hx hf => by rw [(decBond_ok hx).1]; exact h a d (decBond_ok hx).2.1 (decBond_ok hx).2.2 hf
def acc_bond_Check : List D → Option D := a1 decBond fun b => some (errO (chk b))
theorem good_bond_Check : Good bond_Check acc_bond_Check := b1_ok fun b d hc hr hf => by rw [← Option.some.inj hf]; exact bond_Check_ok hc hr
def acc_bond_Months : List D → Option D := a1 decBond fun b => some (.int .i64 (months b))
theorem good_bond_Months : Good bond_Months acc_bond_Months := b1_ok fun b d hc hr hf => by rw [← Option.some.inj hf]; exact bond_Months_ok b
def acc_bond_Coupon : List D → Option D := a1 decBond fun b => some (ratD (cpn b))
theorem good_bond_Coupon : Good bond_Coupon acc_bond_Coupon := b1_ok fun b d hc hr hf => by rw [← Option.some.inj hf]; exact bond_Coupon_ok hc hr
def acc_bond_Redeem : List D → Option D := a1 decBond fun b => some (ratD (rdm b))
theorem good_bond_Redeem : Good bond_Redeem acc_bond_Redeem := b1_ok fun b d hc hr hf => by rw [← Option.some.inj hf]; exact bond_Redeem_ok hc hr
def acc_plan_Of : List D → Option D := a1 decBond fun b => some (planD (planR b))
theorem good_plan_Of : Good plan_Of acc_plan_Of := b1_ok fun b d hc hr hf => by rw [← Option.some.inj hf]; exact plan_Of_ok hc hr
def acc_plan_Quasi : List D → Option D := a2 decBond dec64 fun b n => some (quaD b n)
theorem good_plan_Quasi : Good plan_Quasi acc_plan_Quasi := a2_ok fun x y b n d hx hy hf => by
  rw [(decBond_ok hx).1, (dec64_ok hy).1, ← Option.some.inj hf]; exact plan_Quasi_ok (decBond_ok hx).2.1 (decBond_ok hx).2.2 n
def decP : D → Option (Int × Int)
  | .agg [.int .i64 a, .int .i64 b] => some (a, b)
  | _ => none
theorem decP_ok {d : D} {p : Int × Int} (h : decP d = some p) : d = pD p := by
  unfold decP at h
  split at h <;> simp at h
  subst h; rfl
def acc_plan_Regular : List D → Option D := a2 decBond decP fun b p => some (.bool (regular b p))
theorem good_plan_Regular : Good plan_Regular acc_plan_Regular := a2_ok fun x y b p d hx hy hf => by
  rw [(decBond_ok hx).1, decP_ok hy, ← Option.some.inj hf]; exact plan_Regular_ok (decBond_ok hx).2.1 (decBond_ok hx).2.2 p
def acc_month_Between : List D → Option D := a2 dec64 dec64 fun a b => if IsDay a ∧ IsDay b then some (.int .i64 (betw a b)) else none
theorem good_month_Between : Good month_Between acc_month_Between := a2_ok fun x y a b d hx hy hf => by
  split at hf <;> try (simp at hf; done)
  rename_i h
  rw [(dec64_ok hx).1, (dec64_ok hy).1, ← Option.some.inj hf]; exact month_Between_D h.1 h.2
def acc_date_Weekday : List D → Option D := a1 dec64 fun n => some (.int .i64 (wday n))
theorem good_date_Weekday : Good date_Weekday acc_date_Weekday := a1_ok fun x n d hx hf => by rw [(dec64_ok hx).1, ← Option.some.inj hf]; exact date_Weekday_ok n
def acc_cal_New : List D → Option D
  | [.sl 1 [.int .i64 a, .int .i64 b, .int .i64 c, .int .i64 d, .int .i64 e, .bool false], .sl 0 []] => if a = 1 ∧ b = 1 ∧ c = 1 ∧ d = 0 ∧ e = 0 then some (.tup [.ref [.mapf (jans 300)] 0, .nili]) else none
  | _ => none
theorem good_cal_New : Good cal_New acc_cal_New := by
  intro args d h
  unfold acc_cal_New at h
  split at h <;> try (simp at h; done)
  rename_i a b c d' e
  split at h <;> try (simp at h; done)
  rename_i hc
  obtain ⟨rfl, rfl, rfl, rfl, rfl⟩ := hc
  rw [← Option.some.inj h]
  exact cal_New11
def acc_date_Civil : List D → Option D := a1 dec64 fun n => if IsDay n then some (.tup [civD (civOf n.toNat).1 (civOf n.toNat).2.1 (civOf n.toNat).2.2, .nili]) else some (.tup [civD 0 0 0, errD 4])
theorem good_date_Civil : Good date_Civil acc_date_Civil := a1_ok fun x n d hx hf => by
  rw [(dec64_ok hx).1]
  split at hf
  · rename_i h
    obtain ⟨y, m, dd, hc, hd, ho⟩ := isDay_civ h
    rw [← Option.some.inj hf, ho, hd]
    exact date_Civil_ok hc
  · rename_i h
    rw [← Option.some.inj hf]; exact date_Civil_bad h
def acc_month_Add : List D → Option D
  | [.int .i64 a, .int .i64 n, .bool e] => some (dayD (addD a n e))
  | _ => none
theorem good_month_Add : Good month_Add acc_month_Add := by
  intro args d h
  unfold acc_month_Add at h
  split at h <;> try (simp at h; done)
  rw [← Option.some.inj h]; exact month_Add_D _ _ _
inductive Ent
  | code (ef : EF)
  | acc (p : List D → Option D)
  | mix (p : List D → Option D) (ef : EF)
  | prim (p : List D → Mem → RV)
inductive BT
  | leaf
  | node (k : Nat) (e : Ent) (l r : BT)
def BT.look : BT → Nat → Option Ent
  | .leaf, _ => none
  | .node k e l r, n => bif Nat.beq n k then some e else bif Nat.ble n k then l.look n else r.look n
def EntOk (k : Nat) : Ent → Prop
  | .code ef => TT.fn k = some ef
  | .acc p => Good k p
  | .mix p ef => Good k p ∧ TT.fn k = some ef
  | .prim p => TT.fn k = none ∧ TT.prim k = p
def BT.Ok : BT → Prop
  | .leaf => True
  | .node k e l r => EntOk k e ∧ l.Ok ∧ r.Ok
theorem BT.Ok.look_ok : ∀ {t : BT} {n : Nat} {e : Ent}, t.Ok → t.look n = some e → EntOk n e
  | .leaf, n, e, _, h => by simp [BT.look] at h
  | .node k x l r, n, e, ⟨h1, h2, h3⟩, h => by
    simp only [BT.look, cond_eq_ite] at h
    split at h
    · rename_i hb
      simp at h
      subst h
      rw [Nat.eq_of_beq_eq_true hb]
      exact h1
    · split at h
      · exact BT.Ok.look_ok h2 h
      · exact BT.Ok.look_ok h3 h
def accOrc (t : BT) : Nat → Orc
  | 0 => ⟨fun _ _ _ => none, fun _ _ _ _ _ _ => none, fun _ _ => none⟩
  | n + 1 =>
    ⟨fun f args m => match t.look f with
      | some (.code ef) => ef.step (accOrc t n) args m
      | some (.mix _ ef) => ef.step (accOrc t n) args m
      | some (.prim p) => p args m
      | _ => none,
     fun ins outs body base vals m => loopStep (accOrc t n) ins outs body base vals m,
     fun f args => match t.look f with
      | some (.code ef) => pureOf (ef.step (accOrc t n) args [])
      | some (.prim p) => pureOf (p args [])
      | some (.mix p ef) => (match p args with
        | some d => some d
        | none => pureOf (ef.step (accOrc t n) args []))
      | some (.acc p) => p args
      | none => none⟩
theorem acc_le {t : BT} (ht : t.Ok) : ∀ n, (accOrc t n).le L
  | 0 => ⟨fun f args m r h => by simp [accOrc] at h, fun _ _ _ _ _ _ r h => by simp [accOrc] at h, fun _ _ r h => by simp [accOrc] at h⟩
  | n + 1 => by
    have ih := acc_le ht n
    have hca : ∀ f args m r, (accOrc t (n + 1)).calla f args m = some r → L.calla f args m = some r := by
      intro f args m r h
      simp only [accOrc] at h
      split at h
      · rename_i ef he
        exact lim_fn (ht.look_ok he) (near_fn filt_here ih h)
      · rename_i p ef he
        exact lim_fn (ht.look_ok he).2 (near_fn filt_here ih h)
      · rename_i p he
        obtain ⟨h1, h2⟩ := ht.look_ok he
        exact lim_prim h1 (by rw [h2]; exact h)
      · simp at h
    refine ⟨hca, fun ins outs body base vals m r h => lim_round (near_loop filt_here ih h), fun f args d h => ?_⟩
    have hp : ∀ x : RV, pureOf x = some d → (∀ r, x = some r → L.calla f args [] = some r) → L.call f args = some d := by
      intro x hx hr
      obtain ⟨r, h1⟩ := pureOf_some hx
      show pureOf (L.calla f args []) = some d
      rw [hr r h1, ← h1, hx]
    simp only [accOrc] at h
    split at h
    · rename_i ef he
      exact hp _ h fun r hr => hca f args [] r (by simp only [accOrc, he]; exact hr)
    · rename_i p he
      exact hp _ h fun r hr => hca f args [] r (by simp only [accOrc, he]; exact hr)
    · rename_i p ef he
      split at h
      · rename_i d' hd
        rw [← h]
        exact (ht.look_ok he).1 args d' hd
      · exact hp _ h fun r hr => hca f args [] r (by simp only [accOrc, he]; exact hr)
    · rename_i p he
      exact ht.look_ok he args d h
    · simp at h
theorem acc_call {t : BT} (ht : t.Ok) (n : Nat) {f : Nat} {args : List D} {d : D} (h : (accOrc t n).call f args = some d) : L.call f args = some d := (acc_le ht n).call f args d h
end Go.Ev.Code
