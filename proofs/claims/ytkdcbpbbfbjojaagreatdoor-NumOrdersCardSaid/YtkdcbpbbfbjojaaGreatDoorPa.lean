import Derived.Test.YtkdcbpbbfbjojaaGreatDoorB
/- The contracts of num.figures and num.parse. -/
namespace Go.Proofs.YtkdcbpbbfbjojaaGreatDoor.Pa
open Go.RowKit Go.Proofs.YtkdcbpbbfbjojaaGreatDoor.B
set_option linter.unusedVariables false
set_option linter.unusedSimpArgs false

def isD (c : UInt8) : Bool := 48 ≤ c && c ≤ 57
/-- how many figures a text begins with -/
def nfig (s : ByteArray) : Nat := (s.data.toList.takeWhile isD).length
theorem tw_le (p : UInt8 → Bool) (l : List UInt8) : (l.takeWhile p).length ≤ l.length := (List.takeWhile_prefix p).length_le
theorem nfig_le (s : ByteArray) : nfig s ≤ s.size := by
  unfold nfig
  have := tw_le isD s.data.toList
  simpa using this
theorem tw_at (p : UInt8 → Bool) (l : List UInt8) (k : Nat) (h : k < (l.takeWhile p).length) (hk : k < l.length) : p l[k] = true := by
  induction l generalizing k with
  | nil => simp at hk
  | cons a l ih =>
    by_cases ha : p a = true
    · rw [List.takeWhile_cons_of_pos ha] at h
      cases k with
      | zero => simpa using ha
      | succ k => simpa using ih k (by simpa using h) (by simpa using hk)
    · rw [List.takeWhile_cons_of_neg (by simpa using ha)] at h
      simp at h
theorem tw_stop (p : UInt8 → Bool) (l : List UInt8) (h : (l.takeWhile p).length < l.length) : p (l[(l.takeWhile p).length]) = false := by
  induction l with
  | nil => simp at h
  | cons a l ih =>
    by_cases ha : p a = true
    · have e : ((a :: l).takeWhile p) = a :: l.takeWhile p := List.takeWhile_cons_of_pos ha
      have h' : (l.takeWhile p).length < l.length := by rw [e] at h; simpa using h
      have := ih h'
      simp only [e, List.length_cons, List.getElem_cons_succ]
      exact this
    · have e : ((a :: l).takeWhile p) = [] := List.takeWhile_cons_of_neg (by simpa using ha)
      simp only [e, List.length_nil, List.getElem_cons_zero]
      simpa using ha
theorem isD_iff (c : UInt8) : isD c = true ↔ 48 ≤ (c.toNat : Int) ∧ (c.toNat : Int) ≤ 57 := by
  unfold isD
  simp [UInt8.le_iff_toNat_le]
  omega
theorem nfig_at (s : ByteArray) (k : Nat) (h : k < nfig s) (hk : k < s.size) : 48 ≤ (s[k].toNat : Int) ∧ (s[k].toNat : Int) ≤ 57 := by
  have := tw_at isD s.data.toList k h (by simpa using hk)
  exact (isD_iff _).1 this
theorem nfig_stop (s : ByteArray) (h : nfig s < s.size) : ¬ (48 ≤ (s[nfig s].toNat : Int) ∧ (s[nfig s].toNat : Int) ≤ 57) := by
  have := tw_stop isD s.data.toList (by simpa [nfig] using h)
  rw [← isD_iff]
  intro h2
  exact absurd (h2.symm.trans this) (by simp)

def figA (s : ByteArray) : ByteArray := s.extract 0 (nfig s)
def figB (s : ByteArray) : ByteArray := s.extract (nfig s) s.size
theorem figA_size (s : ByteArray) : (figA s).size = nfig s := by
  unfold figA; rw [ByteArray.size_extract]; have := nfig_le s; omega
theorem figB_size (s : ByteArray) : (figB s).size = s.size - nfig s := by
  unfold figB; rw [ByteArray.size_extract]; have := nfig_le s; omega
set_option maxHeartbeats 1000000 in
theorem figures_calls (s : ByteArray) (w : World) (hs : s.size ≤ 140737488351232) :
    Calls Tryz.prog 48 #[.string s] w fun e w' => e = .returned (.tuple #[.string (figA s), .string (figB s)]) ∧ Dr w w' := by
  have hle := nfig_le s
  go_enter Tryz.func48, Tryz.ntmps48
  go_wp2
  go_loop [4] (fun i => ∃ k : Nat, k ≤ nfig s ∧ i = .int .i64 k) (fun i => s.size - (intOf i).toNat)
  case atStart => exact ⟨0, Nat.zero_le _, rfl⟩
  case round =>
    obtain ⟨k, hk, rfl⟩ := hrel
    by_cases hlt : k < nfig s
    · obtain ⟨h1, h2⟩ := nfig_at s k hlt (by omega)
      have hl : k < s.size := by omega
      go_wp2
      go_round
      case rel => exact ⟨k + 1, by omega, by go_num⟩
      case measure => simp [intOf]; omega
    · obtain rfl : k = nfig s := by omega
      by_cases hl : nfig s < s.size
      · have h3 := nfig_stop s hl
        clear hlt hk
        by_cases h4 : 48 ≤ (s[nfig s].toNat : Int)
        · have h5 : ¬ (s[nfig s].toNat : Int) ≤ 57 := fun h => h3 ⟨h4, h⟩
          clear h3
          go_wp2
          go_quiet (fail)
          go_wp2
          go_ret2
          exact ⟨rfl, Dr.drewN _ _⟩
        · clear h3
          go_wp2
          go_quiet (fail)
          go_wp2
          go_ret2
          exact ⟨rfl, Dr.drewN _ _⟩
      · clear hlt hk
        go_wp2
        go_quiet (fail)
        go_wp2
        go_ret2
        exact ⟨rfl, Dr.drewN _ _⟩

/-- strings.CutPrefix -/
def cutOk (s p : ByteArray) : Bool := decide (p.size ≤ s.size) && ((s.extract 0 p.size).toList == p.toList)
def cutp (s p : ByteArray) : ByteArray := if cutOk s p = true then s.extract p.size s.size else s

theorem CutPrefix_calls (s p : ByteArray) (w : World) (hs : s.size ≤ 140737488351232) (hp : p.size ≤ 140737488351232) :
    Calls Tryz.prog 47 #[.string s, .string p] w fun e w' => e = .returned (.tuple #[.string (cutp s p), .bool (cutOk s p)]) ∧ Dr w w' := by
  by_cases h1 : p.size ≤ s.size
  · cases h2 : (s.extract 0 p.size).toList == p.toList
    · have e1 : cutOk s p = false := by unfold cutOk; rw [h2]; simp
      have e2 : cutp s p = s := by unfold cutp; rw [e1]; simp
      rw [e1, e2]
      clear e1 e2
      go_enter Tryz.func47, Tryz.ntmps47
      go_wp2
      go_ret2
      exact ⟨rfl, Dr.refl _⟩
    · have e1 : cutOk s p = true := by unfold cutOk; rw [h2]; simp [h1]
      have e2 : cutp s p = s.extract p.size s.size := by unfold cutp; rw [e1]; simp
      rw [e1, e2]
      clear e1 e2
      go_enter Tryz.func47, Tryz.ntmps47
      go_wp2
      go_ret2
      exact ⟨rfl, Dr.refl _⟩
  · have e1 : cutOk s p = false := by unfold cutOk; simp [h1]
    have e2 : cutp s p = s := by unfold cutp; rw [e1]; simp
    rw [e1, e2]
    clear e1 e2
    go_enter Tryz.func47, Tryz.ntmps47
    go_wp2
    go_ret2
    exact ⟨rfl, Dr.refl _⟩

theorem cutp_le (s p : ByteArray) : (cutp s p).size ≤ s.size := by
  unfold cutp; split
  · rw [ByteArray.size_extract]; omega
  · omega
end Go.Proofs.YtkdcbpbbfbjojaaGreatDoor.Pa
