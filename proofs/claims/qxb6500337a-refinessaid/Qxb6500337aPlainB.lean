/-
  The plain side of the bank: numbers in blocks, balances.
-/
import Derived.Test.Qxb6500337aPlain
namespace Go.Proofs.Qxb6500337a

/-- A number in a block, lowest byte first. -/
def eB (n : Nat) : Blk := (UInt8.ofNat n, UInt8.ofNat (n / 256), UInt8.ofNat (n / 65536), UInt8.ofNat (n / 16777216))
def dec (x : Blk) : Nat := x.1.toNat + x.2.1.toNat * 256 + x.2.2.1.toNat * 65536 + x.2.2.2.toNat * 16777216
theorem dec_eB (n : Nat) (h : n < 4294967296) : dec (eB n) = n := by
  unfold dec eB
  simp only [UInt8.toNat_ofNat']
  omega
theorem eB_zero : eB 0 = zB := rfl
theorem dec_zB : dec zB = 0 := rfl

/-- The balances: four numbers, none above 1000. -/
def Bal (l : List Nat) : Prop := l.length = 4 ∧ ∀ n ∈ l, n ≤ 1000
/-- As the blocks of the layer below: the accounts, then the running total. -/
def enc (l : List Nat) : List Blk := (l ++ [l.sum]).map eB

theorem four {l : List Nat} (h : l.length = 4) : ∃ a b c d, l = [a, b, c, d] := by
  match l, h with
  | [a, b, c, d], _ => exact ⟨a, b, c, d, rfl⟩
theorem Bal.le {l : List Nat} (h : Bal l) (i : Nat) : l.getD i 0 ≤ 1000 := by
  by_cases hi : i < l.length
  · have : l.getD i 0 = l[i] := by simp [List.getD, List.getElem?_eq_getElem hi]
    rw [this]
    exact h.2 _ (List.getElem_mem hi)
  · simp [List.getD, List.getElem?_eq_none (show l.length ≤ i by omega)]
theorem Bal.sum {l : List Nat} (h : Bal l) : l.sum ≤ 4000 := by
  obtain ⟨a, b, c, d, rfl⟩ := four h.1
  have h0 := h.le 0
  have h1 := h.le 1
  have h2 := h.le 2
  have h3 := h.le 3
  simp at h0 h1 h2 h3 ⊢
  omega
theorem bal_zero : Bal [0, 0, 0, 0] := ⟨rfl, by simp⟩
theorem enc_zero : enc [0, 0, 0, 0] = [zB, zB, zB, zB, zB] := rfl

theorem enc_get {l : List Nat} (h : Bal l) (i : Nat) (hi : i < 4) : (enc l).getD i zB = eB (l.getD i 0) := by
  obtain ⟨a, b, c, d, rfl⟩ := four h.1
  match i, hi with
  | 0, _ => rfl
  | 1, _ => rfl
  | 2, _ => rfl
  | 3, _ => rfl
theorem enc_total {l : List Nat} (h : Bal l) : (enc l).getD 4 zB = eB l.sum := by
  obtain ⟨a, b, c, d, rfl⟩ := four h.1
  rfl
theorem home_at (now : List Blk) (m : List Blk) (i : Nat) (h : homes now = m) : now.getD (3 + i) zB = m.getD i zB := by
  subst h
  simp [homes, List.getD]

theorem enc_inj {l k : List Nat} (hl : Bal l) (hk : Bal k) (h : enc l = enc k) : l = k := by
  apply List.ext_getElem
  · rw [hl.1, hk.1]
  · intro i h1 h2
    have e1 := enc_get hl i (by rw [hl.1] at h1; exact h1)
    have e2 := enc_get hk i (by rw [hk.1] at h2; exact h2)
    rw [h, e2] at e1
    have hd := congrArg dec e1
    have b1 := hl.le i
    have b2 := hk.le i
    rw [dec_eB _ (by omega), dec_eB _ (by omega)] at hd
    simpa [List.getD, List.getElem?_eq_getElem h1, List.getElem?_eq_getElem h2] using hd.symm

theorem four_cases {n : Nat} (h : n < 4) : n = 0 ∨ n = 1 ∨ n = 2 ∨ n = 3 := by omega

/-- A deposit. -/
theorem bal_dep {l : List Nat} (h : Bal l) (a x : Nat) (hx : l.getD a 0 + x ≤ 1000) : Bal (l.set a (l.getD a 0 + x)) := by
  refine ⟨by simp [h.1], fun n hn => ?_⟩
  rcases List.mem_or_eq_of_mem_set hn with hn | rfl
  · exact h.2 n hn
  · exact hx
theorem enc_dep {l : List Nat} (h : Bal l) (a x : Nat) (ha : a < 4) : ((enc l).set a (eB (l.getD a 0 + x))).set 4 (eB (l.sum + x)) = enc (l.set a (l.getD a 0 + x)) := by
  obtain ⟨p, q, r, s, rfl⟩ := four h.1
  rcases four_cases ha with rfl | rfl | rfl | rfl <;> simp [enc] <;> congr 1 <;> omega

/-- A transfer. -/
theorem bal_tra {l : List Nat} (h : Bal l) (f t x : Nat) (hx : l.getD t 0 + x ≤ 1000) : Bal ((l.set f (l.getD f 0 - x)).set t (l.getD t 0 + x)) := by
  refine ⟨by simp [h.1], fun n hn => ?_⟩
  rcases List.mem_or_eq_of_mem_set hn with hn | rfl
  · rcases List.mem_or_eq_of_mem_set hn with hn | rfl
    · exact h.2 n hn
    · have := h.le f; omega
  · exact hx
theorem enc_tra {l : List Nat} (h : Bal l) (f t x : Nat) (hf : f < 4) (ht : t < 4) (hft : f ≠ t) (hx : x ≤ l.getD f 0) :
    ((enc l).set f (eB (l.getD f 0 - x))).set t (eB (l.getD t 0 + x)) = enc ((l.set f (l.getD f 0 - x)).set t (l.getD t 0 + x)) := by
  obtain ⟨p, q, r, s, rfl⟩ := four h.1
  rcases four_cases hf with rfl | rfl | rfl | rfl <;> rcases four_cases ht with rfl | rfl | rfl | rfl <;>
    first
      | (exfalso; omega)
      | (simp at hx; simp [enc]; congr 1; omega)
end Go.Proofs.Qxb6500337a
