/- A part of the proof of flowSum_card, flowParts_card, flowEx_card, accrWhole_card, priceZero_card. -/
import Derived.Test.YtnokhmkkpcfilaaGreatDoorCSpD3
set_option linter.unusedVariables false
set_option linter.unusedSimpArgs false
namespace Go.Ev.Code
open Go Go.Ev
set_option maxHeartbeats 1000000 in
theorem aku (hbeg : L.call dF [] = some (.bool true)) (b0 : aN) : L.call jE [bf b0] = some (.bool true) := by
 have hcut := WM b0
 obtain ⟨hc, hr⟩ := ajc b0
 generalize Jm b0 = b at *
 have hof := aaw hc hr
 have hbr := yc hc hr
 have hbc := x9 hc hr
 have hbl := mQ b
 have hbd := mP b 0 10
 have hbl0 := mQ b0
 have hbd0 := mP b0 0 10
 have hcl' := fun n => iw b n
 have hcl0 := fun n => iw b0 n
 have hb2 : (aS b)[2]? = some (.int .i64 b.dQ) := rfl
 unfold xQ at hof
 cases he : (bn b).1 with
 | some e =>
   rw [he] at hof
   unfold bf AV at *
   obtain ⟨i, mt, fq, c, rd', n, st, en, ex⟩ := b
   obtain ⟨i', mt', fq', c', rd'', n', st', en', ex'⟩ := b0
   unfold aS at *
   simp only at *
   rcases e with ⟨c, _ | t⟩
   ·simp only [jc] at hof
    refine aO pV rfl (pU ..) ?_
    simp [lY, hbeg, hcut, hof]
   ·simp only [jc, fQ] at hof
    refine aO pV rfl (pU ..) ?_
    simp [lY, hbeg, hcut, hof]
 | none =>
   rw [he] at hof
   obtain ⟨h0, p, r, q, hps, hq, hfl⟩ := lC he
   have hchk := jw h0
   have hf := jm (dM hchk).2.1
   have hlen : (bn b).2.length = (p :: r).length := by rw [hfl, KQ]
   have hpl := (eG h0).2.len
   rw [hps] at hpl
   have hF : 1 ≤ b.dQ ∧ b.dQ ≤ 12 := by rcases hf with h | h | h | h <;> omega
   have e1 : IntKind.i64.wrap (b.dQ + 1) = b.dQ + 1 := wrap64 _ (by omega)
   by_cases hlt : ((bn b).2.length : Int) < b.dQ + 1
   ·simp only [jc] at hof
    unfold bf AV at *
    generalize (bn b).2.length = N at *
    generalize dw (bn b).2 = fc at *
    obtain ⟨i, mt, fq, c, rd', n, st, en, ex⟩ := b
    obtain ⟨i', mt', fq', c', rd'', n', st', en', ex'⟩ := b0
    unfold aS at *
    simp only at *
    refine aO pV rfl (pU ..) ?_
    simp [lY, hbeg, hcut, hof,  e1, hlt]
   ·obtain ⟨k, hk⟩ : ∃ k, k = (bn b).2.length - b.dQ.toNat := ⟨_, rfl⟩
    have hk1 : 1 ≤ k := by omega
    have hk2 : k < (p :: r).length := by omega
    have hdr : (bn b).2.drop k = iG (gJ b) (iU b) ((p :: r).drop k) := by rw [hfl]; exact akr _ _ _ hk1 hk2
    have hrl : ((p :: r).drop k).length = b.dQ.toNat := by rw [List.length_drop]; omega
    have hrne : (p :: r).drop k ≠ [] := by
     intro h
     rw [h] at hrl
     simp at hrl
     omega
    have hall : ∀ x ∈ (bn b).2.drop k, 0 ≤ x.2 ∧ RB 900 x.2 := by
     intro x hx
     rw [hdr] at hx
     have := adD (afg hf) (akR b) (K_ hf) (Eu b) x hx
     exact ⟨this.1, this.2.mono (by omega)⟩
    have hdl : ((bn b).2.drop k).length = b.dQ.toNat := by rw [List.length_drop]; omega
    have hlp := aoV (b := b) (fs := (bn b).2) (by omega) ((bn b).2.drop k) ((bn b).2.take k) (iU b) 400 (List.take_append_drop k _).symm hall (Eu b) (by omega)
    rw [List.length_take, Nat.min_eq_left (by omega)] at hlp
    have hsB := ajF (Eu b) (fun x hx => (hall x hx).2)
    rw [hdl] at hsB
    have hadd := sU (hsB.mono (by omega : _ ≤ 20000)) (KL b) (by omega)
    have hz : JQ (iU b) ((bn b).2.drop k) + En b = 0 := by
     rw [hdr, adT _ _ _ _ hrne, hrl]
     exact aoW hf _
    rw [hz] at hadd
    have hsg := Et 0
    have e2 : IntKind.i64.wrap (((bn b).2.length : Int) - b.dQ) = (k : Int) := by rw [wrap64 _ (by omega)]; omega
    simp only [jc] at hof
    generalize JQ (iU b) ((bn b).2.drop k) = sm at *
    generalize iU b = rd at *
    generalize En b = cp at *
    have hsg0 : (0 : Rat).num.sign = 0 := by decide
    unfold bf AV at *
    generalize (bn b).2.length = N at *
    generalize dw (bn b).2 = fc at *
    obtain ⟨i, mt, fq, c, rd', n, st, en, ex⟩ := b
    obtain ⟨i', mt', fq', c', rd'', n', st', en', ex'⟩ := b0
    unfold aS at *
    simp only at *
    refine aO pV rfl (pU ..) ?_
    simp [lY, hbeg, hcut, hof,  e1, hlt, hbr, e2, hlp, hbc, hadd, hsg, hsg0]
end Go.Ev.Code
