import Derived.Test.YtkdcbpbbfbjojaaGreatDoorPb
/- The contract of num.parse, its last ways: an exponent. -/
namespace Go.Proofs.YtkdcbpbbfbjojaaGreatDoor.Pd
open Go.RowKit Go.Proofs.YtkdcbpbbfbjojaaGreatDoor.B Go.Proofs.YtkdcbpbbfbjojaaGreatDoor.Pa Go.Proofs.YtkdcbpbbfbjojaaGreatDoor.Pb
set_option linter.unusedVariables false
set_option linter.unusedSimpArgs false
set_option maxHeartbeats 8000000 in
theorem parse_9 (s : ByteArray) (w : World) (h : s.size ≤ 64) (t : ByteArray) (ht : cutp s ⟨#[45]⟩ = t) (A r : ByteArray) (hA : figA t = A) (hr : figB t = r) (hA0 : ¬ A.toList = []) (hA1 : 0 < A.size) (hA2 : A.toList.isEmpty = false) (hz : (¬ (A[0].toNat : Int) = 48) ∨ ((A[0].toNat : Int) = 48 ∧ A.size ≤ 1)) (u b r2 : ByteArray) (hu : cutp r ⟨#[46]⟩ = u) (hb : figA u = b) (hs : figB u = r2) (b2 r3 : ByteArray) (hc : (cutOk r ⟨#[46]⟩ = true ∧ ¬ b.toList = [] ∧ b.toList.isEmpty = false ∧ b2 = b ∧ r3 = r2) ∨ (cutOk r ⟨#[46]⟩ = false ∧ b2 = ⟨#[]⟩ ∧ r3 = r)) (h3 : ¬ r3.toList = []) (h30 : r3.toList.isEmpty = false) (h31 : 0 < r3.size) (h4 : ((r3[0].toNat : Int) != 101) = false ∨ (((r3[0].toNat : Int) != 101) = true ∧ ((r3[0].toNat : Int) != 69) = false)) (p q : ByteArray) (r4 : ByteArray) (h44 : r3.extract 1 r3.size = r4) (hs4 : r4.size ≤ 64) (r5 : ByteArray) (h55 : r4.extract 1 r4.size = r5) (hs5 : r5.size ≤ 64) (hp : figA r5 = p) (hq : figB r5 = q) (h5 : ¬ r4.toList = []) (h50 : r4.toList.isEmpty = false) (h51 : 0 < r4.size) (h6 : ((r4[0].toNat : Int) == 43) = true ∨ (((r4[0].toNat : Int) == 43) = false ∧ ((r4[0].toNat : Int) == 45) = true)) (hbad : p.toList = [] ∨ (¬ p.toList = [] ∧ p.toList.isEmpty = false ∧ ¬ q.toList = [] ∧ q.toList.isEmpty = false)) :
    Calls Tryz.prog 31 #[.string s] w fun e w' => e = .returned (.tuple #[.agg #[.bool false, .string ⟨#[]⟩, .string ⟨#[]⟩, .string ⟨#[]⟩], .bool false]) ∧ Below w.heap.size w w' := by
  have hts := cutp_le s ⟨#[45]⟩; rw [ht] at hts; have hrs := figB_le t; rw [hr] at hrs; have Ht := Lib.hid ht; have HA := Lib.hid hA; have Hr := Lib.hid hr; clear ht hA hr; have hus := cutp_le r ⟨#[46]⟩; rw [hu] at hus; have hss := figB_le u; rw [hs] at hss; have Hu := Lib.hid hu; have Hb := Lib.hid hb; have Hs := Lib.hid hs; clear hu hb hs
  have Hp := Lib.hid hp; have Hq := Lib.hid hq; have H44 := Lib.hid h44; clear hp hq h44
  have H55 := Lib.hid h55
  clear h55
  rcases hc with ⟨hc, hb0, hb1, rfl, rfl⟩ | ⟨hc, rfl, rfl⟩
  · rcases h4 with h4 | ⟨h4, h4'⟩ <;> rcases hz with hz | ⟨hz, hz2⟩ <;> rcases hbad with hbad | ⟨hbad, hbad1, hbad2, hbad3⟩ <;> rcases h6 with h6 | ⟨h6, h7⟩
    all_goals
      go_enter Tryz.func31, Tryz.ntmps31
      go_wp2_with fail; refine (CutPrefix_calls _ _ _ ?_ ?_).mono ?_; omega; decide; rw [Ht.out]; rintro e w' ⟨rfl, ⟨n1, rfl⟩⟩
      go_wp2_with fail; refine (figures_calls _ _ ?_).mono ?_; omega; rw [HA.out, Hr.out]; rintro e w' ⟨rfl, ⟨n2, rfl⟩⟩
      go_wp2_with fail; refine (CutPrefix_calls _ _ _ ?_ ?_).mono ?_; omega; decide; rw [Hu.out]; rintro e w' ⟨rfl, ⟨n3, rfl⟩⟩
      go_wp2_with fail; refine (figures_calls _ _ ?_).mono ?_; omega; rw [Hb.out, Hs.out]; rintro e w' ⟨rfl, ⟨n4, rfl⟩⟩
      go_upto_region 18 with (fail)
      rw [H44.out]
      go_wp2_with fail
      go_quiet (fail)
      go_wp2_with fail
      rw [H55.out]
      refine (figures_calls _ _ ?_).mono ?_; omega; rw [Hp.out, Hq.out]; rintro e w' ⟨rfl, ⟨n5, rfl⟩⟩; go_wp2_with fail; go_returns; exact ⟨rfl, (by (repeat (first | with_reducible exact Below.refl _ _ | with_reducible refine below_drewN ?_ _ | with_reducible refine below_alloc ?_ ?_ _)); all_goals first | exact Nat.le_refl _ | (simp; done) | (simp; omega))⟩
  · rcases h4 with h4 | ⟨h4, h4'⟩ <;> rcases hz with hz | ⟨hz, hz2⟩ <;> rcases hbad with hbad | ⟨hbad, hbad1, hbad2, hbad3⟩ <;> rcases h6 with h6 | ⟨h6, h7⟩
    all_goals
      go_enter Tryz.func31, Tryz.ntmps31
      go_wp2_with fail; refine (CutPrefix_calls _ _ _ ?_ ?_).mono ?_; omega; decide; rw [Ht.out]; rintro e w' ⟨rfl, ⟨n1, rfl⟩⟩
      go_wp2_with fail; refine (figures_calls _ _ ?_).mono ?_; omega; rw [HA.out, Hr.out]; rintro e w' ⟨rfl, ⟨n2, rfl⟩⟩
      go_wp2_with fail; refine (CutPrefix_calls _ _ _ ?_ ?_).mono ?_; omega; decide; rw [Hu.out]; rintro e w' ⟨rfl, ⟨n3, rfl⟩⟩
      go_upto_region 18 with (fail)
      rw [H44.out]
      go_wp2_with fail
      go_quiet (fail)
      go_wp2_with fail
      rw [H55.out]
      refine (figures_calls _ _ ?_).mono ?_; omega; rw [Hp.out, Hq.out]; rintro e w' ⟨rfl, ⟨n5, rfl⟩⟩; go_wp2_with fail; go_returns; exact ⟨rfl, (by (repeat (first | with_reducible exact Below.refl _ _ | with_reducible refine below_drewN ?_ _ | with_reducible refine below_alloc ?_ ?_ _)); all_goals first | exact Nat.le_refl _ | (simp; done) | (simp; omega))⟩

set_option maxHeartbeats 8000000 in
theorem parse_10 (s : ByteArray) (w : World) (h : s.size ≤ 64) (t : ByteArray) (ht : cutp s ⟨#[45]⟩ = t) (A r : ByteArray) (hA : figA t = A) (hr : figB t = r) (hA0 : ¬ A.toList = []) (hA1 : 0 < A.size) (hA2 : A.toList.isEmpty = false) (hz : (¬ (A[0].toNat : Int) = 48) ∨ ((A[0].toNat : Int) = 48 ∧ A.size ≤ 1)) (u b r2 : ByteArray) (hu : cutp r ⟨#[46]⟩ = u) (hb : figA u = b) (hs : figB u = r2) (b2 r3 : ByteArray) (hc : (cutOk r ⟨#[46]⟩ = true ∧ ¬ b.toList = [] ∧ b.toList.isEmpty = false ∧ b2 = b ∧ r3 = r2) ∨ (cutOk r ⟨#[46]⟩ = false ∧ b2 = ⟨#[]⟩ ∧ r3 = r)) (h3 : ¬ r3.toList = []) (h30 : r3.toList.isEmpty = false) (h31 : 0 < r3.size) (h4 : ((r3[0].toNat : Int) != 101) = false ∨ (((r3[0].toNat : Int) != 101) = true ∧ ((r3[0].toNat : Int) != 69) = false)) (p q : ByteArray) (r4 : ByteArray) (h44 : r3.extract 1 r3.size = r4) (hs4 : r4.size ≤ 64) (r5 : ByteArray) (h55 : r4.extract 1 r4.size = r5) (hs5 : r5.size ≤ 64) (hp : figA r5 = p) (hq : figB r5 = q) (h5 : ¬ r4.toList = []) (h50 : r4.toList.isEmpty = false) (h51 : 0 < r4.size) (h6 : ((r4[0].toNat : Int) == 43) = true ∨ (((r4[0].toNat : Int) == 43) = false ∧ ((r4[0].toNat : Int) == 45) = true)) (hg1 : ¬ p.toList = []) (hg2 : p.toList.isEmpty = false) (hg3 : q.toList = []) (hps : p.size ≤ 64) :
    Calls Tryz.prog 31 #[.string s] w fun e w' => e = .returned (.tuple #[.agg #[.bool (cutOk s ⟨#[45]⟩), .string A, .string b2, .string (r4.extract 0 1 ++ p)], .bool true]) ∧ Below w.heap.size w w' := by
  have hts := cutp_le s ⟨#[45]⟩; rw [ht] at hts; have hrs := figB_le t; rw [hr] at hrs; have Ht := Lib.hid ht; have HA := Lib.hid hA; have Hr := Lib.hid hr; clear ht hA hr; have hus := cutp_le r ⟨#[46]⟩; rw [hu] at hus; have hss := figB_le u; rw [hs] at hss; have Hu := Lib.hid hu; have Hb := Lib.hid hb; have Hs := Lib.hid hs; clear hu hb hs
  have Hp := Lib.hid hp; have Hq := Lib.hid hq; have H44 := Lib.hid h44; clear hp hq h44
  have H55 := Lib.hid h55
  clear h55
  rcases hc with ⟨hc, hb0, hb1, rfl, rfl⟩ | ⟨hc, rfl, rfl⟩
  · rcases h4 with h4 | ⟨h4, h4'⟩ <;> rcases hz with hz | ⟨hz, hz2⟩ <;> rcases h6 with h6 | ⟨h6, h7⟩
    all_goals
      go_enter Tryz.func31, Tryz.ntmps31
      go_wp2_with fail; refine (CutPrefix_calls _ _ _ ?_ ?_).mono ?_; omega; decide; rw [Ht.out]; rintro e w' ⟨rfl, ⟨n1, rfl⟩⟩
      go_wp2_with fail; refine (figures_calls _ _ ?_).mono ?_; omega; rw [HA.out, Hr.out]; rintro e w' ⟨rfl, ⟨n2, rfl⟩⟩
      go_wp2_with fail; refine (CutPrefix_calls _ _ _ ?_ ?_).mono ?_; omega; decide; rw [Hu.out]; rintro e w' ⟨rfl, ⟨n3, rfl⟩⟩
      go_wp2_with fail; refine (figures_calls _ _ ?_).mono ?_; omega; rw [Hb.out, Hs.out]; rintro e w' ⟨rfl, ⟨n4, rfl⟩⟩
      go_upto_region 18 with (fail)
      rw [H44.out]
      go_wp2_with fail
      go_quiet (fail)
      go_wp2_with fail
      rw [H55.out]
      refine (figures_calls _ _ ?_).mono ?_; omega; rw [Hp.out, Hq.out]; rintro e w' ⟨rfl, ⟨n5, rfl⟩⟩; go_wp2_with fail; go_returns; exact ⟨rfl, (by (repeat (first | with_reducible exact Below.refl _ _ | with_reducible refine below_drewN ?_ _ | with_reducible refine below_alloc ?_ ?_ _)); all_goals first | exact Nat.le_refl _ | (simp; done) | (simp; omega))⟩
  · rcases h4 with h4 | ⟨h4, h4'⟩ <;> rcases hz with hz | ⟨hz, hz2⟩ <;> rcases h6 with h6 | ⟨h6, h7⟩
    all_goals
      go_enter Tryz.func31, Tryz.ntmps31
      go_wp2_with fail; refine (CutPrefix_calls _ _ _ ?_ ?_).mono ?_; omega; decide; rw [Ht.out]; rintro e w' ⟨rfl, ⟨n1, rfl⟩⟩
      go_wp2_with fail; refine (figures_calls _ _ ?_).mono ?_; omega; rw [HA.out, Hr.out]; rintro e w' ⟨rfl, ⟨n2, rfl⟩⟩
      go_wp2_with fail; refine (CutPrefix_calls _ _ _ ?_ ?_).mono ?_; omega; decide; rw [Hu.out]; rintro e w' ⟨rfl, ⟨n3, rfl⟩⟩
      go_upto_region 18 with (fail)
      rw [H44.out]
      go_wp2_with fail
      go_quiet (fail)
      go_wp2_with fail
      rw [H55.out]
      refine (figures_calls _ _ ?_).mono ?_; omega; rw [Hp.out, Hq.out]; rintro e w' ⟨rfl, ⟨n5, rfl⟩⟩; go_wp2_with fail; go_returns; exact ⟨rfl, (by (repeat (first | with_reducible exact Below.refl _ _ | with_reducible refine below_drewN ?_ _ | with_reducible refine below_alloc ?_ ?_ _)); all_goals first | exact Nat.le_refl _ | (simp; done) | (simp; omega))⟩

end Go.Proofs.YtkdcbpbbfbjojaaGreatDoor.Pd
