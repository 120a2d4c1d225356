import Derived.Test.YtpecdgjddffhjaaBase
namespace Go.Proofs.Ytpecdgjddffhjaa.Crc
open Go.RowKit

/-! The check as plain arithmetic: one bit's step, eight of them a byte. Everything is linear over exclusive or. -/

theorem xor_zero {a b : Nat} (h : a ^^^ b = 0) : a = b := by
  have := congrArg (· ^^^ b) h
  simpa [Nat.xor_assoc] using this

/-- One step of the register of 16 bits. -/
def sb (c : Nat) : Nat := (2 * c % 65536) ^^^ (if c / 32768 = 1 then 4129 else 0)
/-- So many steps. -/
def sbs : Nat → Nat → Nat
  | 0, c => c
  | n + 1, c => sbs n (sb c)
def step (c b : Nat) : Nat := sbs 8 (c ^^^ b * 256)
/-- The register behind bytes. -/
def reg (c : Nat) (l : List Int) : Nat := l.foldl (fun c x => step c x.toNat) c

theorem sb_lt (c : Nat) : sb c < 65536 := by
  unfold sb
  have h : (65536 : Nat) = 2 ^ 16 := by decide
  rw [h]
  refine Nat.xor_lt_two_pow (Nat.mod_lt _ (by decide)) ?_
  split <;> decide
theorem sb_testBit (c i : Nat) (hc : c < 65536) : (sb c).testBit i = ((decide (1 ≤ i ∧ i < 16) && c.testBit (i - 1)) ^^ (c.testBit 15 && (4129 : Nat).testBit i)) := by
  unfold sb
  rw [Nat.testBit_xor]
  congr 1
  · have h : 2 * c % 65536 = (c <<< 1) % 2 ^ 16 := by rw [Nat.shiftLeft_eq]; omega
    rw [h, Nat.testBit_mod_two_pow, Nat.testBit_shiftLeft]
    by_cases h1 : i < 16 <;> by_cases h2 : 1 ≤ i <;> simp [h1, h2]
  · have e : c.testBit 15 = decide (c / 32768 = 1) := by
      rw [Nat.testBit_eq_decide_div_mod_eq]
      have : c / 2 ^ 15 % 2 = 1 ↔ c / 32768 = 1 := by
        have h15 : (2 : Nat) ^ 15 = 32768 := by decide
        rw [h15]; omega
      exact decide_eq_decide.2 this
    rw [e]
    by_cases h : c / 32768 = 1 <;> simp [h]
theorem xor_lt {a b : Nat} (ha : a < 65536) (hb : b < 65536) : a ^^^ b < 65536 := Nat.xor_lt_two_pow (n := 16) ha hb
theorem sb_xor (a b : Nat) (ha : a < 65536) (hb : b < 65536) : sb (a ^^^ b) = sb a ^^^ sb b := by
  apply Nat.eq_of_testBit_eq
  intro i
  rw [Nat.testBit_xor, sb_testBit _ _ (xor_lt ha hb), sb_testBit _ _ ha, sb_testBit _ _ hb, Nat.testBit_xor, Nat.testBit_xor]
  cases a.testBit (i - 1) <;> cases b.testBit (i - 1) <;> cases a.testBit 15 <;> cases b.testBit 15 <;> cases (4129 : Nat).testBit i <;> cases decide (1 ≤ i ∧ i < 16) <;> rfl
theorem sb_zero : sb 0 = 0 := by decide
theorem sb_double (c : Nat) (h : c < 32768) : sb c = 2 * c := by
  unfold sb
  rw [if_neg (by omega), Nat.xor_zero]
  omega
theorem sb_ne (c : Nat) (hc : c < 65536) (h : c ≠ 0) : sb c ≠ 0 := by
  unfold sb
  split
  · intro e
    have e2 : 2 * c % 65536 = 4129 := by
      exact xor_zero e
    omega
  · rw [Nat.xor_zero]
    omega

theorem sbs_lt (n c : Nat) (hc : c < 65536) : sbs n c < 65536 := by
  induction n generalizing c with
  | zero => exact hc
  | succ n ih => exact ih _ (sb_lt c)
theorem sbs_xor (n a b : Nat) (ha : a < 65536) (hb : b < 65536) : sbs n (a ^^^ b) = sbs n a ^^^ sbs n b := by
  induction n generalizing a b with
  | zero => rfl
  | succ n ih =>
    show sbs n (sb (a ^^^ b)) = sbs n (sb a) ^^^ sbs n (sb b)
    rw [sb_xor a b ha hb, ih _ _ (sb_lt a) (sb_lt b)]
theorem sbs_zero (n : Nat) : sbs n 0 = 0 := by
  induction n with
  | zero => rfl
  | succ n ih => show sbs n (sb 0) = 0; rw [sb_zero, ih]
theorem sbs_ne (n c : Nat) (hc : c < 65536) (h : c ≠ 0) : sbs n c ≠ 0 := by
  induction n generalizing c with
  | zero => exact h
  | succ n ih => exact ih _ (sb_lt c) (sb_ne c hc h)
theorem sbs_add (m n c : Nat) : sbs (m + n) c = sbs n (sbs m c) := by
  induction m generalizing c with
  | zero => simp [sbs]
  | succ m ih => rw [Nat.succ_add]; exact ih _
theorem sbs_inj (n a b : Nat) (ha : a < 65536) (hb : b < 65536) (h : sbs n a = sbs n b) : a = b := by
  by_cases e : a ^^^ b = 0
  · exact xor_zero e
  · exact absurd (by rw [sbs_xor n a b ha hb, h, Nat.xor_self]) (sbs_ne n _ (xor_lt ha hb) e)
/-- A bit below the highest goes up. -/
theorem sbs_up (j : Nat) : ∀ i, i + j = 15 → sbs j (2 ^ i) = 32768 := by
  induction j with
  | zero =>
    intro i h
    obtain rfl : i = 15 := by omega
    rfl
  | succ j ih =>
    intro i h
    show sbs j (sb (2 ^ i)) = 32768
    have hl : 2 ^ i < 32768 := Nat.pow_lt_pow_right (by decide) (show i < 15 by omega)
    rw [sb_double _ hl, show 2 * 2 ^ i = 2 ^ (i + 1) by rw [Nat.pow_succ]; omega]
    exact ih _ (by omega)

theorem byte_lt {b : Nat} (hb : b < 256) : b * 256 < 65536 := by omega
theorem step_lt (c b : Nat) (hc : c < 65536) (hb : b < 256) : step c b < 65536 := sbs_lt _ _ (xor_lt hc (byte_lt hb))
theorem mul256_xor (a b : Nat) : (a ^^^ b) * 256 = a * 256 ^^^ b * 256 := by
  have h : ∀ x : Nat, x * 256 = x <<< 8 := fun x => by rw [Nat.shiftLeft_eq]
  rw [h, h, h, Nat.shiftLeft_xor_distrib]
theorem step_xor_byte (c b d : Nat) (hc : c < 65536) (hb : b < 256) (hd : d < 256) : step c (b ^^^ d) = step c b ^^^ sbs 8 (d * 256) := by
  unfold step
  rw [mul256_xor, ← Nat.xor_assoc, sbs_xor _ _ _ (xor_lt hc (byte_lt hb)) (byte_lt hd)]
theorem step_xor_reg (c v b : Nat) (hc : c < 65536) (hv : v < 65536) (hb : b < 256) : step (c ^^^ v) b = step c b ^^^ sbs 8 v := by
  unfold step
  rw [show c ^^^ v ^^^ b * 256 = (c ^^^ b * 256) ^^^ v by rw [Nat.xor_assoc, Nat.xor_comm v, ← Nat.xor_assoc], sbs_xor _ _ _ (xor_lt hc (byte_lt hb)) hv]
/-- Eight steps of a byte at the low end. -/
theorem sbs8_low (b : Nat) (hb : b < 256) : sbs 8 b = b * 256 := by
  have h : ∀ (n c : Nat), c * 2 ^ n < 65536 → sbs n c = c * 2 ^ n := by
    intro n
    induction n with
    | zero => intro c _; simp [sbs]
    | succ n ih =>
      intro c hc
      have h2 : c * 2 ^ (n + 1) = 2 * c * 2 ^ n := by rw [Nat.pow_succ]; ac_rfl
      have h1 : c < 32768 := by
        have : 1 ≤ 2 ^ n := Nat.one_le_two_pow
        have : 2 * c * 1 ≤ 2 * c * 2 ^ n := Nat.mul_le_mul_left _ this
        omega
      show sbs n (sb c) = _
      rw [sb_double c h1, ih _ (by omega), h2]
  rw [h 8 b (by omega)]

def Bytes (l : List Int) : Prop := ∀ x ∈ l, 0 ≤ x ∧ x < 256
theorem Bytes.nat {l : List Int} (h : Bytes l) {x : Int} (hx : x ∈ l) : x.toNat < 256 := by have := h x hx; omega
theorem reg_lt (c : Nat) (l : List Int) (hc : c < 65536) (hl : Bytes l) : reg c l < 65536 := by
  induction l generalizing c with
  | nil => exact hc
  | cons x l ih => exact ih _ (step_lt _ _ hc (hl.nat (by simp))) fun y hy => hl y (by simp [hy])
theorem reg_append (c : Nat) (l m : List Int) : reg c (l ++ m) = reg (reg c l) m := by simp [reg, List.foldl_append]
theorem reg_xor (c v : Nat) (l : List Int) (hc : c < 65536) (hv : v < 65536) (hl : Bytes l) : reg (c ^^^ v) l = reg c l ^^^ sbs (8 * l.length) v := by
  induction l generalizing c v with
  | nil => rfl
  | cons x l ih =>
    have hx := hl.nat (x := x) (by simp)
    show reg (step (c ^^^ v) x.toNat) l = reg (step c x.toNat) l ^^^ _
    rw [step_xor_reg c v _ hc hv hx, ih _ _ (step_lt _ _ hc hx) (sbs_lt _ _ hv) fun y hy => hl y (by simp [hy])]
    rw [← sbs_add, show 8 + 8 * l.length = 8 * (x :: l).length by simp; omega]

/-- What a byte's bit i is worth (0: the highest). -/
def mask (i : Nat) : Nat := 128 >>> i
theorem mask_pow (i : Nat) (h : i < 8) : mask i = 2 ^ (7 - i) := by
  unfold mask
  match i, h with
  | 0, _ => rfl
  | 1, _ => rfl
  | 2, _ => rfl
  | 3, _ => rfl
  | 4, _ => rfl
  | 5, _ => rfl
  | 6, _ => rfl
  | 7, _ => rfl
theorem mask_lt (i : Nat) (h : i < 8) : mask i < 256 := by
  rw [mask_pow i h]
  exact Nat.pow_lt_pow_right (by decide) (show 7 - i < 8 by omega)
def flip (l : List Int) (k : Nat) : List Int := l.set (k / 8) (((l.getD (k / 8) 0).toNat ^^^ mask (k % 8) : Nat) : Int)
theorem flip_length (l : List Int) (k : Nat) : (flip l k).length = l.length := by simp [flip]
theorem flip_bytes (l : List Int) (k : Nat) (h : Bytes l) (hk : k < 8 * l.length) : Bytes (flip l k) := by
  intro x hx
  rcases List.mem_or_eq_of_mem_set hx with hx | rfl
  · exact h x hx
  · have hi : k / 8 < l.length := by omega
    have hb : (l.getD (k / 8) 0).toNat < 256 := h.nat (by rw [List.getD_eq_getElem?_getD, List.getElem?_eq_getElem hi]; simp)
    have := Nat.xor_lt_two_pow (n := 8) hb (mask_lt (k % 8) (by omega))
    omega
/-- What a flip does to the register. -/
theorem reg_flip (c : Nat) (l : List Int) (k : Nat) (hc : c < 65536) (hl : Bytes l) (hk : k < 8 * l.length) : reg c (flip l k) = reg c l ^^^ sbs (8 * l.length - k) 32768 := by
  have hi : k / 8 < l.length := by omega
  have hsplit : l = l.take (k / 8) ++ l[k / 8] :: l.drop (k / 8 + 1) := by simp
  have hb : (l[k / 8]).toNat < 256 := hl.nat (by simp)
  have hpost : Bytes (l.drop (k / 8 + 1)) := fun x hx => hl x (List.mem_of_mem_drop hx)
  have hpre : Bytes (l.take (k / 8)) := fun x hx => hl x (List.mem_of_mem_take hx)
  have hr := reg_lt c _ hc hpre
  have hm := mask_lt (k % 8) (by omega)
  have hg : l.getD (k / 8) 0 = l[k / 8] := by rw [List.getD_eq_getElem?_getD, List.getElem?_eq_getElem hi]; simp
  have e1 : reg c (flip l k) = reg (step (reg c (l.take (k / 8))) (l[k / 8].toNat ^^^ mask (k % 8))) (l.drop (k / 8 + 1)) := by
    unfold flip
    rw [List.set_eq_take_append_cons_drop, if_pos hi, hg, reg_append]
    show reg (step _ _) _ = _
    rw [Int.toNat_natCast]
  have e2 : reg c l = reg (step (reg c (l.take (k / 8))) l[k / 8].toNat) (l.drop (k / 8 + 1)) := by
    conv => lhs; rw [hsplit]
    rw [reg_append]; rfl
  rw [e1, e2, step_xor_byte _ _ _ hr hb hm, reg_xor _ _ _ (step_lt _ _ hr hb) (sbs_lt _ _ (byte_lt hm)) hpost]
  congr 1
  rw [← sbs_add]
  have hp : mask (k % 8) * 256 = 2 ^ (15 - k % 8) := by
    rw [mask_pow _ (by omega), show (256 : Nat) = 2 ^ 8 by decide, ← Nat.pow_add, show 7 - k % 8 + 8 = 15 - k % 8 by omega]
  rw [hp, show 8 + 8 * (l.drop (k / 8 + 1)).length = k % 8 + (8 * l.length - k) by simp; omega, sbs_add, sbs_up (k % 8) (15 - k % 8) (by omega)]

/-- The last two bytes are the check of those ahead of them just where the check of all is 0. -/
theorem reg_two (c h l : Nat) (hc : c < 65536) (hh : h < 256) (hl : l < 256) : step (step c h) l = 0 ↔ c = h * 256 + l := by
  have hz : step (step (h * 256 + l) h) l = 0 := by
    have e1 : h * 256 + l = h * 256 ^^^ l := by
      have h8 : h * 256 = 2 ^ 8 * h := by omega
      rw [h8, Nat.two_pow_add_eq_or_of_lt (i := 8) hl]
      apply Nat.eq_of_testBit_eq
      intro i
      rw [Nat.testBit_or, Nat.testBit_xor, Nat.testBit_two_pow_mul]
      by_cases hi : 8 ≤ i
      · rw [Nat.testBit_lt_two_pow (show l < 2 ^ i from Nat.lt_of_lt_of_le hl (Nat.pow_le_pow_right (show 0 < 2 by decide) hi : 2 ^ 8 ≤ 2 ^ i))]
        simp
      · simp [hi]
    have e2 : step (h * 256 + l) h = l * 256 := by
      unfold step
      rw [e1, Nat.xor_comm (h * 256) l, Nat.xor_assoc, Nat.xor_self, Nat.xor_zero, sbs8_low l hl]
    rw [e2]
    unfold step
    rw [Nat.xor_self, sbs_zero]
  constructor
  · intro e
    have e3 : step (step c h) l = step (step (h * 256 + l) h) l := by rw [e, hz]
    have l1 := step_lt c h hc hh
    have hc2 : h * 256 + l < 65536 := by omega
    have l2 := step_lt _ h hc2 hh
    have e4 := sbs_inj 8 _ _ (xor_lt l1 (byte_lt hl)) (xor_lt l2 (byte_lt hl)) e3
    have e5 : step c h = step (h * 256 + l) h := by
      have := congrArg (· ^^^ l * 256) e4
      simpa [Nat.xor_assoc] using this
    have e6 := sbs_inj 8 _ _ (xor_lt hc (byte_lt hh)) (xor_lt hc2 (byte_lt hh)) e5
    have := congrArg (· ^^^ h * 256) e6
    simpa [Nat.xor_assoc] using this
  · rintro rfl
    exact hz

/-! The sign whether an odd number of bits is set. -/
def oddN : Nat → Nat → Bool
  | 0, _ => false
  | n + 1, c => oddN n c ^^ c.testBit n
def odd (c : Nat) : Bool := oddN 16 c
theorem oddN_xor (n a b : Nat) : oddN n (a ^^^ b) = (oddN n a ^^ oddN n b) := by
  induction n with
  | zero => rfl
  | succ n ih =>
    simp only [oddN, ih, Nat.testBit_xor]
    cases oddN n a <;> cases oddN n b <;> cases a.testBit n <;> cases b.testBit n <;> rfl
theorem odd_xor (a b : Nat) : odd (a ^^^ b) = (odd a ^^ odd b) := oddN_xor 16 a b
theorem odd_sb (c : Nat) (hc : c < 65536) : odd (sb c) = odd c := by
  unfold odd
  simp only [oddN, sb_testBit _ _ hc]
  have e0 : (4129 : Nat).testBit 0 = true := by decide
  have e1 : (4129 : Nat).testBit 1 = false := by decide
  have e2 : (4129 : Nat).testBit 2 = false := by decide
  have e3 : (4129 : Nat).testBit 3 = false := by decide
  have e4 : (4129 : Nat).testBit 4 = false := by decide
  have e5 : (4129 : Nat).testBit 5 = true := by decide
  have e6 : (4129 : Nat).testBit 6 = false := by decide
  have e7 : (4129 : Nat).testBit 7 = false := by decide
  have e8 : (4129 : Nat).testBit 8 = false := by decide
  have e9 : (4129 : Nat).testBit 9 = false := by decide
  have e10 : (4129 : Nat).testBit 10 = false := by decide
  have e11 : (4129 : Nat).testBit 11 = false := by decide
  have e12 : (4129 : Nat).testBit 12 = true := by decide
  have e13 : (4129 : Nat).testBit 13 = false := by decide
  have e14 : (4129 : Nat).testBit 14 = false := by decide
  have e15 : (4129 : Nat).testBit 15 = false := by decide
  rw [e0, e1, e2, e3, e4, e5, e6, e7, e8, e9, e10, e11, e12, e13, e14, e15]
  simp
  cases c.testBit 15 <;> simp
theorem odd_sbs (n c : Nat) (hc : c < 65536) : odd (sbs n c) = odd c := by
  induction n generalizing c with
  | zero => rfl
  | succ n ih => exact (ih _ (sb_lt c)).trans (odd_sb c hc)

/-- No two of the first 4,800 places are alike. -/
def away : Nat → Nat → Bool
  | 0, _ => true
  | n + 1, c => (sb c != 32768) && away n (sb c)
theorem away_holds : away 4800 32768 = true := by decide +kernel
theorem away_ne (n c : Nat) (h : away n c = true) : ∀ m, 1 ≤ m → m ≤ n → sbs m c ≠ 32768 := by
  induction n generalizing c with
  | zero => intro m h1 h2; omega
  | succ n ih =>
    intro m h1 h2
    obtain ⟨h3, h4⟩ := Bool.and_eq_true_iff.1 h
    obtain ⟨m, rfl⟩ : ∃ q, m = q + 1 := ⟨m - 1, by omega⟩
    rcases Nat.eq_zero_or_pos m with rfl | hm
    · intro e
      have e' : sb c = 32768 := e
      simp [e'] at h3
    · exact ih _ h4 m hm (by omega)
theorem two_apart (a b : Nat) (hab : a < b) (hd : b - a ≤ 4800) : sbs a 32768 ^^^ sbs b 32768 ≠ 0 := by
  intro e
  have e1 := xor_zero e
  have e2 : sbs b 32768 = sbs a (sbs (b - a) 32768) := by rw [← sbs_add, show b - a + a = b by omega]
  have e3 := sbs_inj a _ _ (by decide) (sbs_lt _ _ (by decide)) (e1.trans e2)
  exact away_ne 4800 32768 away_holds (b - a) (by omega) hd e3.symm

end Go.Proofs.Ytpecdgjddffhjaa.Crc
