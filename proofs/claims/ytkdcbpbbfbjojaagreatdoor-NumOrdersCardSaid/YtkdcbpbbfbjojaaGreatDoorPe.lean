import Derived.Test.YtkdcbpbbfbjojaaGreatDoorPc
import Derived.Test.YtkdcbpbbfbjojaaGreatDoorPd
import Derived.Laws.Strings
/- The contract of num.parse: it returns what the plain function parseF says. -/
namespace Go.Proofs.YtkdcbpbbfbjojaaGreatDoor.Pe
open Go.RowKit Go.Proofs.YtkdcbpbbfbjojaaGreatDoor.B Go.Proofs.YtkdcbpbbfbjojaaGreatDoor.Pa Go.Proofs.YtkdcbpbbfbjojaaGreatDoor.Pb Go.Proofs.YtkdcbpbbfbjojaaGreatDoor.Pc Go.Proofs.YtkdcbpbbfbjojaaGreatDoor.Pd
set_option linter.unusedVariables false
set_option linter.unusedSimpArgs false

theorem ext_le (s : ByteArray) (a b : Nat) : (s.extract a b).size ≤ s.size := by rw [ByteArray.size_extract]; omega
def at0 (s : ByteArray) : Nat := if h : 0 < s.size then s[0].toNat else 256
abbrev Parts := Bool × ByteArray × ByteArray × ByteArray × Bool
def zz : Parts := (false, ⟨#[]⟩, ⟨#[]⟩, ⟨#[]⟩, false)
/-- from the place where the exponent's sign may stand -/
def tail3 (ng : Bool) (A b r4 : ByteArray) : Parts :=
  if at0 r4 = 43 ∨ at0 r4 = 45 then
    (if (figA (r4.extract 1 r4.size)).toList = [] ∨ ¬ (figB (r4.extract 1 r4.size)).toList = [] then zz else (ng, A, b, r4.extract 0 1 ++ figA (r4.extract 1 r4.size), true))
  else (if (figA r4).toList = [] ∨ ¬ (figB r4).toList = [] then zz else (ng, A, b, ⟨#[]⟩ ++ figA r4, true))
/-- behind the figures -/
def tail2 (ng : Bool) (A b r3 : ByteArray) : Parts :=
  if r3.toList = [] then (ng, A, b, ⟨#[]⟩, true) else if at0 r3 = 101 ∨ at0 r3 = 69 then tail3 ng A b (r3.extract 1 r3.size) else zz
/-- behind the figures ahead of the point -/
def tail1 (ng : Bool) (A r : ByteArray) : Parts :=
  if cutOk r ⟨#[46]⟩ = true then (if (figA (cutp r ⟨#[46]⟩)).toList = [] then zz else tail2 ng A (figA (cutp r ⟨#[46]⟩)) (figB (cutp r ⟨#[46]⟩))) else tail2 ng A ⟨#[]⟩ r
def tail0 (ng : Bool) (A r : ByteArray) : Parts :=
  if A.toList = [] then zz else if at0 A = 48 ∧ 1 < A.size then zz else tail1 ng A r
def parseF (s : ByteArray) : Parts :=
  if 64 < s.size then zz else tail0 (cutOk s ⟨#[45]⟩) (figA (cutp s ⟨#[45]⟩)) (figB (cutp s ⟨#[45]⟩))

theorem nil_iff (s : ByteArray) : s.toList = [] ↔ s.size = 0 := by
  rw [ByteArray.toList_eq]
  constructor
  · intro h; show s.data.size = 0; rw [← Array.length_toList, h]; rfl
  · intro h; have h : s.data.size = 0 := h; rw [← Array.length_toList] at h; exact List.eq_nil_of_length_eq_zero h
theorem ne_facts (s : ByteArray) (h : ¬ s.toList = []) : s.toList.isEmpty = false ∧ 0 < s.size := by
  refine ⟨by simpa using h, ?_⟩
  rw [nil_iff] at h
  omega
theorem at0_eq (s : ByteArray) (h : 0 < s.size) : (s[0].toNat : Int) = (at0 s : Int) := by unfold at0; rw [dif_pos h]

def pv (p : Parts) : Value := .tuple #[.agg #[.bool p.1, .string p.2.1, .string p.2.2.1, .string p.2.2.2.1], .bool p.2.2.2.2]
theorem parse_calls (s : ByteArray) (w : World) (hs : s.size ≤ 140737488351232) : Calls Tryz.prog 31 #[.string s] w fun e w' => e = .returned (pv (parseF s)) ∧ Below w.heap.size w w' := by
  unfold parseF
  by_cases h : 64 < s.size
  · rw [if_pos h]; exact parse_long s w hs h
  rw [if_neg h]
  have h : s.size ≤ 64 := by omega
  have hts := cutp_le s ⟨#[45]⟩
  generalize ht : cutp s ⟨#[45]⟩ = t at *
  have hrs := figB_le t
  generalize hA : figA t = A
  generalize hr : figB t = r at *
  unfold tail0
  by_cases hA0 : A.toList = []
  · rw [if_pos hA0]; exact parse_1 s w h t ht A r hA hr hA0
  rw [if_neg hA0]
  obtain ⟨hA2, hA1⟩ := ne_facts A hA0
  have ea := at0_eq A hA1
  by_cases hz : at0 A = 48 ∧ 1 < A.size
  · rw [if_pos hz]; exact parse_2 s w h t ht A r hA hr hA0 hA1 hA2 (by rw [ea, hz.1]; rfl) hz.2
  rw [if_neg hz]
  have hz : (¬ (A[0].toNat : Int) = 48) ∨ ((A[0].toNat : Int) = 48 ∧ A.size ≤ 1) := by rw [ea]; omega
  unfold tail1
  have hus := cutp_le r ⟨#[46]⟩
  generalize hu : cutp r ⟨#[46]⟩ = u at *
  have hbs := figB_le u
  generalize hb : figA u = b
  generalize hr2 : figB u = r2 at *
  have key : ∀ b2 r3 : ByteArray, ((cutOk r ⟨#[46]⟩ = true ∧ ¬ b.toList = [] ∧ b.toList.isEmpty = false ∧ b2 = b ∧ r3 = r2) ∨ (cutOk r ⟨#[46]⟩ = false ∧ b2 = ⟨#[]⟩ ∧ r3 = r)) → r3.size ≤ 64 →
      Calls Tryz.prog 31 #[.string s] w fun e w' => e = .returned (pv (tail2 (cutOk s ⟨#[45]⟩) A b2 r3)) ∧ Below w.heap.size w w' := by
    intro b2 r3 hc hsz
    unfold tail2
    by_cases h3 : r3.toList = []
    · rw [if_pos h3]; exact parse_4 s w h t ht A r hA hr hA0 hA1 hA2 hz u b r2 hu hb hr2 b2 r3 hc h3
    rw [if_neg h3]
    obtain ⟨h30, h31⟩ := ne_facts r3 h3
    have e3 := at0_eq r3 h31
    by_cases h4 : at0 r3 = 101 ∨ at0 r3 = 69
    · rw [if_pos h4]
      have h4 : ((r3[0].toNat : Int) != 101) = false ∨ (((r3[0].toNat : Int) != 101) = true ∧ ((r3[0].toNat : Int) != 69) = false) := by
        rw [e3]
        by_cases h5 : at0 r3 = 101
        · left; rw [h5]; rfl
        · right
          have h6 : at0 r3 = 69 := by omega
          rw [h6]; exact ⟨rfl, rfl⟩
      generalize h44 : r3.extract 1 r3.size = r4
      have hs4 : r4.size ≤ 64 := by rw [← h44]; exact Nat.le_trans (ext_le _ _ _) hsz
      unfold tail3
      generalize h55 : r4.extract 1 r4.size = r5
      have hs5 : r5.size ≤ 64 := by rw [← h55]; exact Nat.le_trans (ext_le _ _ _) hs4
      by_cases h5 : r4.toList = []
      · have hz4 : r4.size = 0 := (nil_iff r4).1 h5
        have ha4 : ¬ (at0 r4 = 43 ∨ at0 r4 = 45) := by unfold at0; rw [dif_neg (by omega)]; omega
        rw [if_neg ha4]
        have hf : (figA r4).toList = [] := by rw [nil_iff, figA_size]; have := nfig_le r4; omega
        rw [if_pos (Or.inl hf)]
        exact parse_6 s w h t ht A r hA hr hA0 hA1 hA2 hz u b r2 hu hb hr2 b2 r3 hc h3 h30 h31 h4 _ _ r4 h44 hs4 rfl rfl h5 hf
      obtain ⟨h50, h51⟩ := ne_facts r4 h5
      have e4 := at0_eq r4 h51
      have bad : ∀ p q : ByteArray, (p.toList = [] ∨ ¬ q.toList = []) → (p.toList = [] ∨ (¬ p.toList = [] ∧ p.toList.isEmpty = false ∧ ¬ q.toList = [] ∧ q.toList.isEmpty = false)) := by
        intro p q hx
        by_cases hp : p.toList = []
        · exact Or.inl hp
        · have hq := hx.resolve_left hp
          exact Or.inr ⟨hp, (ne_facts p hp).1, hq, (ne_facts q hq).1⟩
      by_cases h6 : at0 r4 = 43 ∨ at0 r4 = 45
      · rw [if_pos h6]
        have h6 : ((r4[0].toNat : Int) == 43) = true ∨ (((r4[0].toNat : Int) == 43) = false ∧ ((r4[0].toNat : Int) == 45) = true) := by
          rw [e4]
          by_cases h7 : at0 r4 = 43
          · left; rw [h7]; rfl
          · right
            have h8 : at0 r4 = 45 := by omega
            rw [h8]; exact ⟨rfl, rfl⟩
        by_cases hx : (figA r5).toList = [] ∨ ¬ (figB r5).toList = []
        · rw [if_pos hx]
          exact parse_9 s w h t ht A r hA hr hA0 hA1 hA2 hz u b r2 hu hb hr2 b2 r3 hc h3 h30 h31 h4 _ _ r4 h44 hs4 r5 h55 hs5 rfl rfl h5 h50 h51 h6 (bad _ _ hx)
        · rw [if_neg hx]
          have h1 : ¬ (figA r5).toList = [] := fun hh => hx (Or.inl hh)
          have h2 : (figB r5).toList = [] := Classical.byContradiction fun hh => hx (Or.inr hh)
          exact parse_10 s w h t ht A r hA hr hA0 hA1 hA2 hz u b r2 hu hb hr2 b2 r3 hc h3 h30 h31 h4 _ _ r4 h44 hs4 r5 h55 hs5 rfl rfl h5 h50 h51 h6 h1 (ne_facts _ h1).1 h2 (Nat.le_trans (figA_le _) hs5)
      · rw [if_neg h6]
        have h7 : ((r4[0].toNat : Int) == 43) = false := by rw [e4]; simp only [beq_eq_false_iff_ne]; omega
        have h8 : ((r4[0].toNat : Int) == 45) = false := by rw [e4]; simp only [beq_eq_false_iff_ne]; omega
        by_cases hx : (figA r4).toList = [] ∨ ¬ (figB r4).toList = []
        · rw [if_pos hx]
          exact parse_7 s w h t ht A r hA hr hA0 hA1 hA2 hz u b r2 hu hb hr2 b2 r3 hc h3 h30 h31 h4 _ _ r4 h44 hs4 rfl rfl h5 h50 h51 h7 h8 (bad _ _ hx)
        · rw [if_neg hx]
          have h1 : ¬ (figA r4).toList = [] := fun hh => hx (Or.inl hh)
          have h2 : (figB r4).toList = [] := Classical.byContradiction fun hh => hx (Or.inr hh)
          exact parse_8 s w h t ht A r hA hr hA0 hA1 hA2 hz u b r2 hu hb hr2 b2 r3 hc h3 h30 h31 h4 _ _ r4 h44 hs4 rfl rfl h5 h50 h51 h7 h8 h1 (ne_facts _ h1).1 h2 (Nat.le_trans (figA_le _) hs4)
    · rw [if_neg h4]
      exact parse_5 s w h t ht A r hA hr hA0 hA1 hA2 hz u b r2 hu hb hr2 b2 r3 hc h3 h30 h31 (by rw [e3]; simp only [bne_iff_ne, ne_eq]; omega) (by rw [e3]; simp only [bne_iff_ne, ne_eq]; omega)
  cases hc : cutOk r ⟨#[46]⟩
  · rw [if_neg (by decide)]
    rw [hc] at key
    exact key ⟨#[]⟩ r (Or.inr ⟨rfl, rfl, rfl⟩) (by omega)
  · rw [if_pos rfl]
    by_cases hb0 : b.toList = []
    · rw [if_pos hb0]
      exact parse_3 s w h t ht A r hA hr hA0 hA1 hA2 hz u b r2 hu hb hr2 hc hb0
    · rw [if_neg hb0]
      rw [hc] at key
      exact key b r2 (Or.inl ⟨rfl, hb0, (ne_facts b hb0).1, rfl, rfl⟩) (by omega)
end Go.Proofs.YtkdcbpbbfbjojaaGreatDoor.Pe
