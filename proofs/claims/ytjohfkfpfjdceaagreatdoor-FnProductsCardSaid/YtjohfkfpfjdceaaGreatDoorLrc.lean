/- Numbers that are read: word for word, by the library and by the reference. -/
import Derived.Test.YtjohfkfpfjdceaaGreatDoorLrb

set_option linter.unusedSimpArgs false
namespace Go.Dv
open Go.Cv

theorem wrap32 {i : Int} (h0 : 0 ≤ i) (h1 : i < 4294967296) : IntKind.u32.wrap i = i := by
  unfold IntKind.wrap
  have e1 : (IntKind.u32.bits) = 32 := rfl
  simp [IntKind.signed, e1]
  omega
theorem hv_cons {n : Nat} {b : UInt8} {r : List UInt8} {m : Nat} (h : hv n (b :: r) = some m) : ∃ d, hexv b = some d ∧ hv (16 * n + d) r = some m := by
  unfold hv at h
  split at h
  · rename_i d hd; exact ⟨d, hd, h⟩
  · cases h
theorem hv_cons' {n : Nat} {b : UInt8} {r : List UInt8} {d : Nat} (h : hexv b = some d) : hv n (b :: r) = hv (16 * n + d) r := by
  rw [hv, h]
theorem hv_ge : ∀ (l : List UInt8) (n m : Nat), hv n l = some m → n ≤ m
  | [], n, m, h => by cases h; exact Nat.le_refl _
  | b :: r, n, m, h => by
    obtain ⟨d, _, h⟩ := hv_cons h
    have := hv_ge r _ _ h
    omega
theorem hv_pu : ∀ (l : List UInt8) (n m : Nat), hv n l = some m → m ≤ 4294967295 → pu n l = .inr m
  | [], n, m, h, _ => by cases h; rfl
  | b :: r, n, m, h, hm => by
    obtain ⟨d, hd, h⟩ := hv_cons h
    obtain ⟨h1, h2, _⟩ := hexv_dig b d hd
    have hge := hv_ge r _ _ h
    unfold pu
    rw [h1]
    simp only
    rw [if_neg (by omega), if_neg (by omega)]
    exact hv_pu r _ _ h hm

theorem ofNat_hd {b : UInt8} {d : Nat} (h : (b.toNat : Int) = hd d) : UInt8.ofNat (hd d).toNat = b := by
  rw [← h]; simp

theorem hex8_read (b : Nat) (h : b < 4294967296) : hv 0 (p_bytes (hex8 b)).data.toList = some b := by
  have e : (p_bytes (hex8 b)).data.toList = [UInt8.ofNat (hd (b / 268435456 % 16)).toNat, UInt8.ofNat (hd (b / 16777216 % 16)).toNat, UInt8.ofNat (hd (b / 1048576 % 16)).toNat, UInt8.ofNat (hd (b / 65536 % 16)).toNat, UInt8.ofNat (hd (b / 4096 % 16)).toNat, UInt8.ofNat (hd (b / 256 % 16)).toNat, UInt8.ofNat (hd (b / 16 % 16)).toNat, UInt8.ofNat (hd (b % 16)).toNat] := rfl
  have m16 : ∀ x : Nat, x % 16 < 16 := fun x => Nat.mod_lt _ (by decide)
  rw [e, hv_cons' (hexv_hd _ (m16 _)), hv_cons' (hexv_hd _ (m16 _)), hv_cons' (hexv_hd _ (m16 _)), hv_cons' (hexv_hd _ (m16 _)), hv_cons' (hexv_hd _ (m16 _)), hv_cons' (hexv_hd _ (m16 _)), hv_cons' (hexv_hd _ (m16 _)), hv_cons' (hexv_hd _ (m16 _))]
  show some _ = some b
  congr 1
  omega

theorem hex8_of (l : List UInt8) (n : Nat) (hl : l.length = 8) (h : hv 0 l = some n) : n < 4294967296 ∧ p_bytes (hex8 n) = ⟨l.toArray⟩ := by
  match l, hl with
  | [b0, b1, b2, b3, b4, b5, b6, b7], _ =>
    obtain ⟨d0, h0, h⟩ := hv_cons h
    obtain ⟨d1, h1, h⟩ := hv_cons h
    obtain ⟨d2, h2, h⟩ := hv_cons h
    obtain ⟨d3, h3, h⟩ := hv_cons h
    obtain ⟨d4, h4, h⟩ := hv_cons h
    obtain ⟨d5, h5, h⟩ := hv_cons h
    obtain ⟨d6, h6, h⟩ := hv_cons h
    obtain ⟨d7, h7, h⟩ := hv_cons h
    have h : some _ = some n := h
    have hn : n = 268435456 * d0 + 16777216 * d1 + 1048576 * d2 + 65536 * d3 + 4096 * d4 + 256 * d5 + 16 * d6 + d7 := by
      have := Option.some.inj h; omega
    obtain ⟨_, k0, e0⟩ := hexv_dig b0 d0 h0
    obtain ⟨_, k1, e1⟩ := hexv_dig b1 d1 h1
    obtain ⟨_, k2, e2⟩ := hexv_dig b2 d2 h2
    obtain ⟨_, k3, e3⟩ := hexv_dig b3 d3 h3
    obtain ⟨_, k4, e4⟩ := hexv_dig b4 d4 h4
    obtain ⟨_, k5, e5⟩ := hexv_dig b5 d5 h5
    obtain ⟨_, k6, e6⟩ := hexv_dig b6 d6 h6
    obtain ⟨_, k7, e7⟩ := hexv_dig b7 d7 h7
    refine ⟨by omega, ?_⟩
    have x0 : n / 268435456 % 16 = d0 := by omega
    have x1 : n / 16777216 % 16 = d1 := by omega
    have x2 : n / 1048576 % 16 = d2 := by omega
    have x3 : n / 65536 % 16 = d3 := by omega
    have x4 : n / 4096 % 16 = d4 := by omega
    have x5 : n / 256 % 16 = d5 := by omega
    have x6 : n / 16 % 16 = d6 := by omega
    have x7 : n % 16 = d7 := by omega
    unfold hex8
    rw [x0, x1, x2, x3, x4, x5, x6, x7]
    show (⟨#[UInt8.ofNat (hd d0).toNat, UInt8.ofNat (hd d1).toNat, UInt8.ofNat (hd d2).toNat, UInt8.ofNat (hd d3).toNat, UInt8.ofNat (hd d4).toNat, UInt8.ofNat (hd d5).toNat, UInt8.ofNat (hd d6).toNat, UInt8.ofNat (hd d7).toNat]⟩ : ByteArray) = _
    rw [ofNat_hd e0, ofNat_hd e1, ofNat_hd e2, ofNat_hd e3, ofNat_hd e4, ofNat_hd e5, ofNat_hd e6, ofNat_hd e7]

theorem cn_lt (n : Nat) (h : n < 4294967296) : cn .f32 n < 4294967296 := by
  unfold cn
  split
  · decide
  · exact h

/-- a word's number -/
noncomputable def gw (w : ByteArray) : Option Nat :=
  if w.size = 8 then (match hv 0 w.data.toList with
    | some n => if bw (cn .f32 n) = n then some (cn .f32 n) else none
    | none => none) else none

theorem tx_inj_read (x : Nat) (hx : x < 4294967296) (w : ByteArray) (h : tx x = w) : w.size = 8 ∧ hv 0 w.data.toList = some (bw x) ∧ pu 0 w.data.toList = .inr (bw x) := by
  subst h
  have hb := (bits_eq x hx).2.2
  have h1 := hex8_read (bw x) hb
  exact ⟨tx_size x, h1, hv_pu _ _ _ h1 (by omega)⟩

theorem readBits_eq (w : ByteArray) (hw : w.size ≤ 1048576) : r_impl_readBits R w = true ∧
    match gw w with
    | some x => p_impl_readBits R w = (x, true)
    | none => (p_impl_readBits R w).2 = false := by
  obtain ⟨p1, p2⟩ := parse_eq w hw
  unfold r_impl_readBits p_impl_readBits c1_impl_readBits c0_impl_readBits p_math_Float32frombits
  rw [p1]
  cases hl : w.data.toList with
  | nil =>
    rw [hl] at p2
    have p2 : p_isNil (p_strconv_ParseUint_16 R w).2 = false := p2
    have hg : gw w = none := by
      unfold gw
      have : ¬ w.size = 8 := fun h => by
        have h2 : w.data.toList.length = 8 := h
        rw [hl] at h2; cases h2
      rw [if_neg this]
    rw [hg, p2]
    exact ⟨rfl, rfl⟩
  | cons b r =>
    rw [hl] at p2
    cases hp : pu 0 (b :: r) with
    | inl e =>
      rw [hp] at p2
      have p2 : p_isNil (p_strconv_ParseUint_16 R w).2 = false := p2
      have hg : gw w = none := by
        unfold gw
        by_cases h8 : w.size = 8
        · rw [if_pos h8]
          cases hh : hv 0 w.data.toList with
          | none => rfl
          | some n =>
            have h3 := hex8_of _ n h8 hh
            have := hv_pu _ _ _ hh (by omega)
            rw [hl, hp] at this; cases this
        · rw [if_neg h8]
      rw [hg, p2]
      exact ⟨rfl, rfl⟩
    | inr m =>
      rw [hp] at p2
      have p2 : p_strconv_ParseUint_16 R w = ((m : Int), none) := p2
      rw [p2]
      have hm : m ≤ 4294967295 := by
        have : ∀ (l : List UInt8) (n m : Nat), pu n l = .inr m → n ≤ 4294967295 → m ≤ 4294967295 := by
          intro l
          induction l with
          | nil => intro n m h h'; cases h; exact h'
          | cons b r ih =>
            intro n m h h'
            unfold pu at h
            split at h
            · cases h
            · split at h
              · cases h
              · split at h
                · cases h
                · exact ih _ _ h (by omega)
        exact this _ _ _ hp (by omega)
      have hwr : IntKind.u32.wrap (m : Int) = (m : Int) := wrap32 (by omega) (by omega)
      simp only [hwr]
      rw [dt (show 0 ≤ (m : Int) by omega), dt (show (m : Int) < 4294967296 by omega)]
      have htn : ((m : Int)).toNat = m := rfl
      rw [htn]
      have hx := cn_lt m (by omega)
      obtain ⟨t1, t2⟩ := text_eq (cn .f32 m) hx
      rw [t1, t2]
      refine ⟨rfl, ?_⟩
      show match gw w with
        | some x => (cn .f32 m, (tx (cn .f32 m)).toList == w.toList) = (x, true)
        | none => ((tx (cn .f32 m)).toList == w.toList) = false
      have hbe : ((tx (cn .f32 m)).toList == w.toList) = decide (tx (cn .f32 m) = w) := by
        rw [Lib.toList_data, Lib.toList_data]
        by_cases h : tx (cn .f32 m) = w
        · rw [dt h, h]; simp
        · rw [df h]
          rw [beq_eq_false_iff_ne]
          intro h2
          exact h (ByteArray.ext (Array.toList_inj.1 h2))
      rw [hbe]
      by_cases h : tx (cn .f32 m) = w
      · rw [dt h]
        obtain ⟨h8, h9, h10⟩ := tx_inj_read _ hx w h
        rw [hl, hp] at h10
        have hbm : bw (cn .f32 m) = m := (Sum.inr.inj h10).symm
        have hg : gw w = some (cn .f32 m) := by
          unfold gw
          rw [if_pos h8, h9, hbm]
          show (if bw (cn .f32 m) = m then some (cn .f32 m) else none) = _
          rw [if_pos hbm]
        rw [hg]
      · rw [df h]
        have hg : gw w = none := by
          unfold gw
          by_cases h8 : w.size = 8
          · rw [if_pos h8]
            cases hh : hv 0 w.data.toList with
            | none => rfl
            | some n =>
              have h3 := hex8_of _ n h8 hh
              have h4 := hv_pu _ _ _ hh (by omega)
              rw [hl, hp] at h4
              cases h4
              show (if bw (cn .f32 m) = m then some (cn .f32 m) else none) = _
              rw [if_neg]
              intro hb
              refine h ?_
              unfold tx
              rw [hb, h3.2]
          · rw [if_neg h8]
        rw [hg]
end Go.Dv
