import Derived.Test.YtkdcbpbbfbjojaaGreatDoorPa
/- The contract of num.parse, way by way. -/
namespace Go.Proofs.YtkdcbpbbfbjojaaGreatDoor.Pb
open Go.RowKit Go.Proofs.YtkdcbpbbfbjojaaGreatDoor.B Go.Proofs.YtkdcbpbbfbjojaaGreatDoor.Pa
set_option linter.unusedVariables false
set_option linter.unusedSimpArgs false

theorem figB_le (s : ByteArray) : (figB s).size ≤ s.size := by rw [figB_size]; omega
theorem figA_le (s : ByteArray) : (figA s).size ≤ s.size := by rw [figA_size]; exact nfig_le s

set_option maxHeartbeats 1000000 in
theorem parse_long (s : ByteArray) (w : World) (hs : s.size ≤ 140737488351232) (h : 64 < s.size) :
    Calls Tryz.prog 31 #[.string s] w fun e w' => e = .returned (.tuple #[.agg #[.bool false, .string ⟨#[]⟩, .string ⟨#[]⟩, .string ⟨#[]⟩], .bool false]) ∧ Below w.heap.size w w' := by
  go_enter Tryz.func31, Tryz.ntmps31
  go_wp2
  go_returns
  exact ⟨rfl, (by (repeat (first | with_reducible exact Below.refl _ _ | with_reducible refine below_drewN ?_ _ | with_reducible refine below_alloc ?_ ?_ _)); all_goals first | exact Nat.le_refl _ | (simp; done) | (simp; omega))⟩

set_option maxHeartbeats 1000000 in
theorem parse_1 (s : ByteArray) (w : World) (h : s.size ≤ 64) (t : ByteArray) (ht : cutp s ⟨#[45]⟩ = t) (A r : ByteArray) (hA : figA t = A) (hr : figB t = r) (hA0 : A.toList = []) :
    Calls Tryz.prog 31 #[.string s] w fun e w' => e = .returned (.tuple #[.agg #[.bool false, .string ⟨#[]⟩, .string ⟨#[]⟩, .string ⟨#[]⟩], .bool false]) ∧ Below w.heap.size w w' := by
  have hts := cutp_le s ⟨#[45]⟩; rw [ht] at hts; have hrs := figB_le t; rw [hr] at hrs; have Ht := Lib.hid ht; have HA := Lib.hid hA; have Hr := Lib.hid hr; clear ht hA hr
  have Hu := trivial
  have Hb := trivial
  have Hs := trivial
  have Hp := trivial
  have Hq := trivial
  go_enter Tryz.func31, Tryz.ntmps31
  go_wp2_with (first | (go_at_call 47; refine (CutPrefix_calls _ _ _ ?_ ?_).mono ?_; omega; decide; (first | rw [Ht.out] | rw [Hu.out]); rintro e w' ⟨rfl, ⟨n1, rfl⟩⟩) | (go_at_call 48; refine (figures_calls _ _ ?_).mono ?_; (first | omega | (simp; omega)); rw [HA.out, Hr.out]; rintro e w' ⟨rfl, ⟨n2, rfl⟩⟩) | (go_at_call 48; refine (figures_calls _ _ ?_).mono ?_; (first | omega | (simp; omega)); rw [Hb.out, Hs.out]; rintro e w' ⟨rfl, ⟨n3, rfl⟩⟩) | (go_at_call 48; refine (figures_calls _ _ ?_).mono ?_; (first | omega | (simp; omega)); rw [Hp.out, Hq.out]; rintro e w' ⟨rfl, ⟨n4, rfl⟩⟩))
  go_returns
  exact ⟨rfl, (by (repeat (first | with_reducible exact Below.refl _ _ | with_reducible refine below_drewN ?_ _ | with_reducible refine below_alloc ?_ ?_ _)); all_goals first | exact Nat.le_refl _ | (simp; done) | (simp; omega))⟩

set_option maxHeartbeats 1000000 in
theorem parse_2 (s : ByteArray) (w : World) (h : s.size ≤ 64) (t : ByteArray) (ht : cutp s ⟨#[45]⟩ = t) (A r : ByteArray) (hA : figA t = A) (hr : figB t = r) (hA0 : ¬ A.toList = []) (hA1 : 0 < A.size) (hA2 : A.toList.isEmpty = false) (hz : (A[0].toNat : Int) = 48) (hz2 : 1 < A.size) :
    Calls Tryz.prog 31 #[.string s] w fun e w' => e = .returned (.tuple #[.agg #[.bool false, .string ⟨#[]⟩, .string ⟨#[]⟩, .string ⟨#[]⟩], .bool false]) ∧ Below w.heap.size w w' := by
  have hts := cutp_le s ⟨#[45]⟩; rw [ht] at hts; have hrs := figB_le t; rw [hr] at hrs; have Ht := Lib.hid ht; have HA := Lib.hid hA; have Hr := Lib.hid hr; clear ht hA hr
  have Hu := trivial
  have Hb := trivial
  have Hs := trivial
  have Hp := trivial
  have Hq := trivial
  have hz3 : (1 : Int) < (A.size : Int) := by omega
  go_enter Tryz.func31, Tryz.ntmps31
  go_wp2_with (first | (go_at_call 47; refine (CutPrefix_calls _ _ _ ?_ ?_).mono ?_; omega; decide; (first | rw [Ht.out] | rw [Hu.out]); rintro e w' ⟨rfl, ⟨n1, rfl⟩⟩) | (go_at_call 48; refine (figures_calls _ _ ?_).mono ?_; (first | omega | (simp; omega)); rw [HA.out, Hr.out]; rintro e w' ⟨rfl, ⟨n2, rfl⟩⟩) | (go_at_call 48; refine (figures_calls _ _ ?_).mono ?_; (first | omega | (simp; omega)); rw [Hb.out, Hs.out]; rintro e w' ⟨rfl, ⟨n3, rfl⟩⟩) | (go_at_call 48; refine (figures_calls _ _ ?_).mono ?_; (first | omega | (simp; omega)); rw [Hp.out, Hq.out]; rintro e w' ⟨rfl, ⟨n4, rfl⟩⟩))
  go_returns
  exact ⟨rfl, (by (repeat (first | with_reducible exact Below.refl _ _ | with_reducible refine below_drewN ?_ _ | with_reducible refine below_alloc ?_ ?_ _)); all_goals first | exact Nat.le_refl _ | (simp; done) | (simp; omega))⟩

set_option maxHeartbeats 2000000 in
theorem parse_3 (s : ByteArray) (w : World) (h : s.size ≤ 64) (t : ByteArray) (ht : cutp s ⟨#[45]⟩ = t) (A r : ByteArray) (hA : figA t = A) (hr : figB t = r) (hA0 : ¬ A.toList = []) (hA1 : 0 < A.size) (hA2 : A.toList.isEmpty = false) (hz : (¬ (A[0].toNat : Int) = 48) ∨ ((A[0].toNat : Int) = 48 ∧ A.size ≤ 1)) (u b r2 : ByteArray) (hu : cutp r ⟨#[46]⟩ = u) (hb : figA u = b) (hs : figB u = r2) (hc : cutOk r ⟨#[46]⟩ = true) (hb0 : b.toList = []) :
    Calls Tryz.prog 31 #[.string s] w fun e w' => e = .returned (.tuple #[.agg #[.bool false, .string ⟨#[]⟩, .string ⟨#[]⟩, .string ⟨#[]⟩], .bool false]) ∧ Below w.heap.size w w' := by
  have hts := cutp_le s ⟨#[45]⟩; rw [ht] at hts; have hrs := figB_le t; rw [hr] at hrs; have Ht := Lib.hid ht; have HA := Lib.hid hA; have Hr := Lib.hid hr; clear ht hA hr; have hus := cutp_le r ⟨#[46]⟩; rw [hu] at hus; have hss := figB_le u; rw [hs] at hss; have Hu := Lib.hid hu; have Hb := Lib.hid hb; have Hs := Lib.hid hs; clear hu hb hs
  have Hp := trivial
  have Hq := trivial
  have hz3 : A.size ≤ 1 ∨ 1 < A.size := by omega
  rcases hz with hz | ⟨hz, hz2⟩ <;> go_enter Tryz.func31, Tryz.ntmps31
  all_goals
    go_wp2_with (first | (go_at_call 47; refine (CutPrefix_calls _ _ _ ?_ ?_).mono ?_; omega; decide; (first | rw [Ht.out] | rw [Hu.out]); rintro e w' ⟨rfl, ⟨n1, rfl⟩⟩) | (go_at_call 48; refine (figures_calls _ _ ?_).mono ?_; (first | omega | (simp; omega)); rw [HA.out, Hr.out]; rintro e w' ⟨rfl, ⟨n2, rfl⟩⟩) | (go_at_call 48; refine (figures_calls _ _ ?_).mono ?_; (first | omega | (simp; omega)); rw [Hb.out, Hs.out]; rintro e w' ⟨rfl, ⟨n3, rfl⟩⟩) | (go_at_call 48; refine (figures_calls _ _ ?_).mono ?_; (first | omega | (simp; omega)); rw [Hp.out, Hq.out]; rintro e w' ⟨rfl, ⟨n4, rfl⟩⟩))
    go_returns
    exact ⟨rfl, (by (repeat (first | with_reducible exact Below.refl _ _ | with_reducible refine below_drewN ?_ _ | with_reducible refine below_alloc ?_ ?_ _)); all_goals first | exact Nat.le_refl _ | (simp; done) | (simp; omega))⟩

set_option maxHeartbeats 2000000 in
theorem parse_4 (s : ByteArray) (w : World) (h : s.size ≤ 64) (t : ByteArray) (ht : cutp s ⟨#[45]⟩ = t) (A r : ByteArray) (hA : figA t = A) (hr : figB t = r) (hA0 : ¬ A.toList = []) (hA1 : 0 < A.size) (hA2 : A.toList.isEmpty = false) (hz : (¬ (A[0].toNat : Int) = 48) ∨ ((A[0].toNat : Int) = 48 ∧ A.size ≤ 1)) (u b r2 : ByteArray) (hu : cutp r ⟨#[46]⟩ = u) (hb : figA u = b) (hs : figB u = r2) (b2 r3 : ByteArray) (hc : (cutOk r ⟨#[46]⟩ = true ∧ ¬ b.toList = [] ∧ b.toList.isEmpty = false ∧ b2 = b ∧ r3 = r2) ∨ (cutOk r ⟨#[46]⟩ = false ∧ b2 = ⟨#[]⟩ ∧ r3 = r)) (h3 : r3.toList = []) :
    Calls Tryz.prog 31 #[.string s] w fun e w' => e = .returned (.tuple #[.agg #[.bool (cutOk s ⟨#[45]⟩), .string A, .string b2, .string ⟨#[]⟩], .bool true]) ∧ Below w.heap.size w w' := by
  have hts := cutp_le s ⟨#[45]⟩; rw [ht] at hts; have hrs := figB_le t; rw [hr] at hrs; have Ht := Lib.hid ht; have HA := Lib.hid hA; have Hr := Lib.hid hr; clear ht hA hr; have hus := cutp_le r ⟨#[46]⟩; rw [hu] at hus; have hss := figB_le u; rw [hs] at hss; have Hu := Lib.hid hu; have Hb := Lib.hid hb; have Hs := Lib.hid hs; clear hu hb hs
  have Hp := trivial
  have Hq := trivial
  rcases hc with ⟨hc, hb0, hb1, rfl, rfl⟩ | ⟨hc, rfl, rfl⟩ <;> rcases hz with hz | ⟨hz, hz2⟩ <;> go_enter Tryz.func31, Tryz.ntmps31
  all_goals
    go_wp2_with (first | (go_at_call 47; refine (CutPrefix_calls _ _ _ ?_ ?_).mono ?_; omega; decide; (first | rw [Ht.out] | rw [Hu.out]); rintro e w' ⟨rfl, ⟨n1, rfl⟩⟩) | (go_at_call 48; refine (figures_calls _ _ ?_).mono ?_; (first | omega | (simp; omega)); rw [HA.out, Hr.out]; rintro e w' ⟨rfl, ⟨n2, rfl⟩⟩) | (go_at_call 48; refine (figures_calls _ _ ?_).mono ?_; (first | omega | (simp; omega)); rw [Hb.out, Hs.out]; rintro e w' ⟨rfl, ⟨n3, rfl⟩⟩) | (go_at_call 48; refine (figures_calls _ _ ?_).mono ?_; (first | omega | (simp; omega)); rw [Hp.out, Hq.out]; rintro e w' ⟨rfl, ⟨n4, rfl⟩⟩))
    go_returns
    exact ⟨rfl, (by (repeat (first | with_reducible exact Below.refl _ _ | with_reducible refine below_drewN ?_ _ | with_reducible refine below_alloc ?_ ?_ _)); all_goals first | exact Nat.le_refl _ | (simp; done) | (simp; omega))⟩

set_option maxHeartbeats 2000000 in
theorem parse_5 (s : ByteArray) (w : World) (h : s.size ≤ 64) (t : ByteArray) (ht : cutp s ⟨#[45]⟩ = t) (A r : ByteArray) (hA : figA t = A) (hr : figB t = r) (hA0 : ¬ A.toList = []) (hA1 : 0 < A.size) (hA2 : A.toList.isEmpty = false) (hz : (¬ (A[0].toNat : Int) = 48) ∨ ((A[0].toNat : Int) = 48 ∧ A.size ≤ 1)) (u b r2 : ByteArray) (hu : cutp r ⟨#[46]⟩ = u) (hb : figA u = b) (hs : figB u = r2) (b2 r3 : ByteArray) (hc : (cutOk r ⟨#[46]⟩ = true ∧ ¬ b.toList = [] ∧ b.toList.isEmpty = false ∧ b2 = b ∧ r3 = r2) ∨ (cutOk r ⟨#[46]⟩ = false ∧ b2 = ⟨#[]⟩ ∧ r3 = r)) (h3 : ¬ r3.toList = []) (h30 : r3.toList.isEmpty = false) (h31 : 0 < r3.size) (h4 : ((r3[0].toNat : Int) != 101) = true) (h5 : ((r3[0].toNat : Int) != 69) = true) :
    Calls Tryz.prog 31 #[.string s] w fun e w' => e = .returned (.tuple #[.agg #[.bool false, .string ⟨#[]⟩, .string ⟨#[]⟩, .string ⟨#[]⟩], .bool false]) ∧ Below w.heap.size w w' := by
  have hts := cutp_le s ⟨#[45]⟩; rw [ht] at hts; have hrs := figB_le t; rw [hr] at hrs; have Ht := Lib.hid ht; have HA := Lib.hid hA; have Hr := Lib.hid hr; clear ht hA hr; have hus := cutp_le r ⟨#[46]⟩; rw [hu] at hus; have hss := figB_le u; rw [hs] at hss; have Hu := Lib.hid hu; have Hb := Lib.hid hb; have Hs := Lib.hid hs; clear hu hb hs
  have Hp := trivial
  have Hq := trivial
  rcases hc with ⟨hc, hb0, hb1, rfl, rfl⟩ | ⟨hc, rfl, rfl⟩ <;> rcases hz with hz | ⟨hz, hz2⟩ <;> go_enter Tryz.func31, Tryz.ntmps31
  all_goals
    go_wp2_with (first | (go_at_call 47; refine (CutPrefix_calls _ _ _ ?_ ?_).mono ?_; omega; decide; (first | rw [Ht.out] | rw [Hu.out]); rintro e w' ⟨rfl, ⟨n1, rfl⟩⟩) | (go_at_call 48; refine (figures_calls _ _ ?_).mono ?_; (first | omega | (simp; omega)); rw [HA.out, Hr.out]; rintro e w' ⟨rfl, ⟨n2, rfl⟩⟩) | (go_at_call 48; refine (figures_calls _ _ ?_).mono ?_; (first | omega | (simp; omega)); rw [Hb.out, Hs.out]; rintro e w' ⟨rfl, ⟨n3, rfl⟩⟩) | (go_at_call 48; refine (figures_calls _ _ ?_).mono ?_; (first | omega | (simp; omega)); rw [Hp.out, Hq.out]; rintro e w' ⟨rfl, ⟨n4, rfl⟩⟩))
    go_returns
    exact ⟨rfl, (by (repeat (first | with_reducible exact Below.refl _ _ | with_reducible refine below_drewN ?_ _ | with_reducible refine below_alloc ?_ ?_ _)); all_goals first | exact Nat.le_refl _ | (simp; done) | (simp; omega))⟩

end Go.Proofs.YtkdcbpbbfbjojaaGreatDoor.Pb
