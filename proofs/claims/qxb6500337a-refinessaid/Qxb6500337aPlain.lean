/-
  The plain side of pair: images of the disk, logs of writes, recovery; no Go in sight.
-/
namespace Go.Proofs.Qxb6500337a

/-- A block: four bytes. -/
abbrev Blk := UInt8 × UInt8 × UInt8 × UInt8
def zB : Blk := (0, 0, 0, 0)

/-- An image of the disk after a log of writes. -/
def app : List Blk → List (Nat × Blk) → List Blk
  | t, [] => t
  | t, p :: l => app (t.set p.1 p.2) l

theorem app_length (l : List (Nat × Blk)) : ∀ t, (app t l).length = t.length := by
  induction l with
  | nil => intro t; rfl
  | cons p l ih => intro t; rw [app, ih]; simp

theorem app_append (l k : List (Nat × Blk)) : ∀ t, app t (l ++ k) = app (app t l) k := by
  induction l with
  | nil => intro t; rfl
  | cons p l ih => intro t; simp only [List.cons_append, app, ih]

/-- The header names a committed pair. -/
def full (h : Blk) : Bool := h.1 == 1
def valid (h : Blk) : Bool := decide (h.2.1.toNat < 5) && decide (h.2.2.1.toNat < 5) && h.2.1 != h.2.2.1

/-- What recovery writes. -/
def recW (t : List Blk) : List (Nat × Blk) :=
  if full (t.getD 0 zB) then
    (if valid (t.getD 0 zB) then [(3 + (t.getD 0 zB).2.1.toNat, t.getD 1 zB), (3 + (t.getD 0 zB).2.2.1.toNat, t.getD 2 zB)] else []) ++ [(0, zB)]
  else []

def rcv (t : List Blk) : List Blk := app t (recW t)
def homes (t : List Blk) : List Blk := t.drop 3

/-- The header of a committed pair. -/
def hdr (a b : Nat) : Blk := (1, UInt8.ofNat a, UInt8.ofNat b, 0)

/-- What Put writes. -/
def putW (a : Nat) (x : Blk) (b : Nat) (y : Blk) : List (Nat × Blk) :=
  [(1, x), (2, y), (0, hdr a b), (3 + a, x), (3 + b, y), (0, zB)]

theorem list8 {l : List Blk} (h : l.length = 8) : ∃ a b c d e f g i, l = [a, b, c, d, e, f, g, i] := by
  match l, h with
  | [a, b, c, d, e, f, g, i], _ => exact ⟨a, b, c, d, e, f, g, i, rfl⟩

/-- Recovery leaves no full header. -/
theorem rcv_hdr (t : List Blk) (ht : t.length = 8) : full ((rcv t).getD 0 zB) = false := by
  obtain ⟨h, sa, sb, e0, e1, e2, e3, e4, rfl⟩ := list8 ht
  have hz : full zB = false := rfl
  by_cases hf : full h = true
  · by_cases hv : valid h = true
    · simp [rcv, recW, hf, hv, app, hz]
    · simp [rcv, recW, hf, hv, app, hz]
  · simp [rcv, recW, hf, app]

theorem rcv_of_idle (t : List Blk) (h : full (t.getD 0 zB) = false) : rcv t = t := by
  unfold rcv recW; rw [h]; rfl

theorem five {n : Nat} (h : n < 5) : n = 0 ∨ n = 1 ∨ n = 2 ∨ n = 3 ∨ n = 4 := by omega

/-- Recovery cut at any point and begun again comes to the same homes. -/
theorem rcv_again (t : List Blk) (ht : t.length = 8) (j : Nat) : homes (rcv (app t ((recW t).take j))) = homes (rcv t) := by
  obtain ⟨h, sa, sb, e0, e1, e2, e3, e4, rfl⟩ := list8 ht
  have hz : full zB = false := rfl
  by_cases hf : full h = true
  · by_cases hv : valid h = true
    · have hab : h.2.1.toNat ≠ h.2.2.1.toNat := by
        intro e
        have : h.2.1 = h.2.2.1 := UInt8.toNat_inj.1 e
        simp [valid, this] at hv
      have ha : h.2.1.toNat < 5 := by simp [valid] at hv; omega
      have hb : h.2.2.1.toNat < 5 := by simp [valid] at hv; omega
      match j with
      | 0 => simp [app]
      | 1 | 2 | n + 3 =>
        rcases five ha with e | e | e | e | e <;> rcases five hb with e' | e' | e' | e' | e' <;>
          first
            | (exfalso; omega)
            | simp [rcv, recW, hf, hv, hz, app, homes, e, e']
    · match j with
      | 0 => simp [app]
      | n + 1 => simp [rcv, recW, hf, hv, app, homes, hz]
  · simp [rcv, recW, hf, app]

/-- The invariant between the real layer's disk (what it shows, as at the mark, the log since) and the model (now; ahead of the step just played). -/
structure Inv (now bas : List Blk) (log : List (Nat × Blk)) (m mb : List Blk) : Prop where
  len : bas.length = 8
  now_eq : now = app bas log
  idle : full (now.getD 0 zB) = false
  mod : homes now = m
  foot : homes (rcv bas) = mb
  cut : ∀ k, homes (rcv (app bas (log.take k))) = mb ∨ homes (rcv (app bas (log.take k))) = m

theorem Inv.nowLen {now bas : List Blk} {log : List (Nat × Blk)} {m mb : List Blk} (h : Inv now bas log m mb) : now.length = 8 := by
  rw [h.now_eq, app_length, h.len]

/-- A cut behind the whole log: the model as it stands. -/
theorem Inv.work {now bas : List Blk} {log : List (Nat × Blk)} {m mb : List Blk} (h : Inv now bas log m mb) (k : Nat) (hk : log.length ≤ k) : homes (rcv (app bas (log.take k))) = m := by
  rw [List.take_of_length_le hk, ← h.now_eq, rcv_of_idle _ h.idle, h.mod]

/-- Recovery is the step just played: the invariant behind a cut. -/
theorem inv_cut (t m : List Blk) (ht : t.length = 8) (h : homes (rcv t) = m) : Inv (rcv t) t (recW t) m m :=
  ⟨ht, rfl, rcv_hdr t ht, h, h, fun k => Or.inl (by rw [rcv_again t ht k]; exact h)⟩

/-- A fresh mark. -/
theorem inv_mark (now m : List Blk) (hl : now.length = 8) (hi : full (now.getD 0 zB) = false) (hm : homes now = m) : Inv now now [] m m :=
  ⟨hl, rfl, hi, hm, by rw [rcv_of_idle _ hi]; exact hm, fun k => Or.inl (by simp [app, rcv_of_idle _ hi, hm])⟩

theorem homes_set (t : List Blk) (a : Nat) (x : Blk) : homes (t.set (3 + a) x) = (homes t).set a x := by
  unfold homes
  rw [List.drop_set, if_neg (by omega), show 3 + a - 3 = a from by omega]

theorem homes_set_low (t : List Blk) (a : Nat) (x : Blk) (h : a < 3) : homes (t.set a x) = homes t := by
  unfold homes
  rw [List.drop_set_of_lt h]

/-- A Put that answers OK. -/
theorem inv_put (now m : List Blk) (a b : Nat) (x y : Blk) (hl : now.length = 8) (hi : full (now.getD 0 zB) = false) (hm : homes now = m) (ha : a < 5) (hb : b < 5) (hab : a ≠ b) :
    Inv (app now (putW a x b y)) now (putW a x b y) ((m.set a x).set b y) m := by
  have hh : homes (app now (putW a x b y)) = (m.set a x).set b y := by
    simp only [putW, app]
    rw [homes_set_low _ _ _ (by omega), homes_set, homes_set, homes_set_low _ _ _ (by omega), homes_set_low _ _ _ (by omega), homes_set_low _ _ _ (by omega), hm]
  have hz : full zB = false := rfl
  have hidle : full ((app now (putW a x b y)).getD 0 zB) = false := by
    obtain ⟨h, sa, sb, e0, e1, e2, e3, e4, rfl⟩ := list8 hl
    simp [putW, app, hz]
  refine ⟨hl, rfl, hidle, hh, by rw [rcv_of_idle _ hi]; exact hm, fun k => ?_⟩
  subst hm
  have hbyte : ∀ n, n < 5 → (UInt8.ofNat n).toNat = n := by intro n hn; simp; omega
  have hF : full (hdr a b) = true := rfl
  have hV : valid (hdr a b) = true := by
    have : UInt8.ofNat a ≠ UInt8.ofNat b := by
      intro e
      have := congrArg UInt8.toNat e
      rw [hbyte a ha, hbyte b hb] at this
      exact hab this
    simp [valid, hdr, this]
    omega
  have hA : (hdr a b).2.1.toNat = a := hbyte a ha
  have hB : (hdr a b).2.2.1.toNat = b := hbyte b hb
  clear hh hidle
  unfold putW
  generalize hdr a b = H at *
  obtain ⟨h, sa, sb, e0, e1, e2, e3, e4, rfl⟩ := list8 hl
  simp only [List.getD_cons_zero] at hi
  match k with
  | 0 => left; simp [rcv, recW, app, hi]
  | 1 => left; simp [rcv, recW, app, hi, homes]
  | 2 => left; simp [rcv, recW, app, hi, homes]
  | 3 =>
    right
    rcases five ha with rfl | rfl | rfl | rfl | rfl <;> rcases five hb with rfl | rfl | rfl | rfl | rfl <;>
      first
        | (exfalso; omega)
        | simp [rcv, recW, hF, hV, app, homes, hA, hB]
  | 4 =>
    right
    rcases five ha with rfl | rfl | rfl | rfl | rfl <;> rcases five hb with rfl | rfl | rfl | rfl | rfl <;>
      first
        | (exfalso; omega)
        | simp [rcv, recW, hF, hV, app, homes, hA, hB]
  | 5 =>
    right
    rcases five ha with rfl | rfl | rfl | rfl | rfl <;> rcases five hb with rfl | rfl | rfl | rfl | rfl <;>
      first
        | (exfalso; omega)
        | simp [rcv, recW, hF, hV, app, homes, hA, hB]
  | n + 6 =>
    right
    rcases five ha with rfl | rfl | rfl | rfl | rfl <;> rcases five hb with rfl | rfl | rfl | rfl | rfl <;>
      first
        | (exfalso; omega)
        | simp [rcv, recW, hz, app, homes]

end Go.Proofs.Qxb6500337a
