/- SHA-256 as plain functions over bytes and words: no program in sight. -/
namespace Go.Proofs.Ytdcmbcjkdhdohaa

def rotr (x : UInt32) (m : Nat) : UInt32 := x >>> UInt32.ofNat m ||| x <<< UInt32.ofNat (32 - m)
def iv : List UInt32 := [0x6a09e667, 0xbb67ae85, 0x3c6ef372, 0xa54ff53a, 0x510e527f, 0x9b05688c, 0x1f83d9ab, 0x5be0cd19]
def kk : List UInt32 := [
    0x428a2f98, 0x71374491, 0xb5c0fbcf, 0xe9b5dba5, 0x3956c25b, 0x59f111f1, 0x923f82a4, 0xab1c5ed5,
    0xd807aa98, 0x12835b01, 0x243185be, 0x550c7dc3, 0x72be5d74, 0x80deb1fe, 0x9bdc06a7, 0xc19bf174,
    0xe49b69c1, 0xefbe4786, 0x0fc19dc6, 0x240ca1cc, 0x2de92c6f, 0x4a7484aa, 0x5cb0a9dc, 0x76f988da,
    0x983e5152, 0xa831c66d, 0xb00327c8, 0xbf597fc7, 0xc6e00bf3, 0xd5a79147, 0x06ca6351, 0x14292967,
    0x27b70a85, 0x2e1b2138, 0x4d2c6dfc, 0x53380d13, 0x650a7354, 0x766a0abb, 0x81c2c92e, 0x92722c85,
    0xa2bfe8a1, 0xa81a664b, 0xc24b8b70, 0xc76c51a3, 0xd192e819, 0xd6990624, 0xf40e3585, 0x106aa070,
    0x19a4c116, 0x1e376c08, 0x2748774c, 0x34b0bcb5, 0x391c0cb3, 0x4ed8aa4a, 0x5b9cca4f, 0x682e6ff3,
    0x748f82ee, 0x78a5636f, 0x84c87814, 0x8cc70208, 0x90befffa, 0xa4506ceb, 0xbef9a3f7, 0xc67178f2]
/-- Word t of a piece's bytes. -/
def beW (b : List UInt8) (t : Nat) : UInt32 :=
  (b.getD (4 * t) 0).toUInt32 <<< UInt32.ofNat 24 ||| (b.getD (4 * t + 1) 0).toUInt32 <<< UInt32.ofNat 16 ||| (b.getD (4 * t + 2) 0).toUInt32 <<< UInt32.ofNat 8 ||| (b.getD (4 * t + 3) 0).toUInt32
def sig (x : UInt32) (a b c : Nat) : UInt32 := rotr x a ^^^ rotr x b ^^^ x >>> UInt32.ofNat c
def big (x : UInt32) (a b c : Nat) : UInt32 := rotr x a ^^^ rotr x b ^^^ rotr x c
/-- Word t of the schedule, out of those ahead of it. -/
def nextW (b : List UInt8) (l : List UInt32) (t : Nat) : UInt32 :=
  if t < 16 then beW b t else l.getD (t - 16) 0 + sig (l.getD (t - 15) 0) 7 18 3 + l.getD (t - 7) 0 + sig (l.getD (t - 2) 0) 17 19 10
/-- The schedule, of which t words are laid. -/
def ws (b : List UInt8) : Nat → List UInt32
  | 0 => List.replicate 64 0
  | t + 1 => (ws b t).set t (nextW b (ws b t) t)
structure S8 where
  a : UInt32
  b : UInt32
  c : UInt32
  d : UInt32
  e : UInt32
  f : UInt32
  g : UInt32
  h : UInt32
def S8.list (s : S8) : List UInt32 := [s.a, s.b, s.c, s.d, s.e, s.f, s.g, s.h]
def S8.of (l : List UInt32) : S8 := ⟨l.getD 0 0, l.getD 1 0, l.getD 2 0, l.getD 3 0, l.getD 4 0, l.getD 5 0, l.getD 6 0, l.getD 7 0⟩
def one (s : S8) (k w : UInt32) : UInt32 := s.h + big s.e 6 11 25 + (s.e &&& s.f ^^^ ~~~s.e &&& s.g) + k + w
def two (s : S8) : UInt32 := big s.a 2 13 22 + (s.a &&& s.b ^^^ s.a &&& s.c ^^^ s.b &&& s.c)
def rnd (s : S8) (k w : UInt32) : S8 := ⟨one s k w + two s, s.a, s.b, s.c, s.d + one s k w, s.e, s.f, s.g⟩
/-- Behind t rounds. -/
def rn (w : List UInt32) (s : S8) : Nat → S8
  | 0 => s
  | t + 1 => rnd (rn w s t) (kk.getD t 0) (w.getD t 0)
def S8.add (s v : S8) : S8 := ⟨s.a + v.a, s.b + v.b, s.c + v.c, s.d + v.d, s.e + v.e, s.f + v.f, s.g + v.g, s.h + v.h⟩
/-- A piece of 64 bytes, worked in. -/
def comp (s : S8) (b : List UInt8) : S8 := s.add (rn (ws b 64) s 64)

@[simp] theorem ws_length (b : List UInt8) : ∀ t, (ws b t).length = 64
  | 0 => by simp [ws]
  | t + 1 => by simp [ws, ws_length b t]
@[simp] theorem kk_length : kk.length = 64 := rfl

def ivS : S8 := ⟨0x6a09e667, 0xbb67ae85, 0x3c6ef372, 0xa54ff53a, 0x510e527f, 0x9b05688c, 0x1f83d9ab, 0x5be0cd19⟩
/-- So many pieces of 64 bytes, worked in. -/
def absN : Nat → S8 → List UInt8 → S8
  | 0, s, _ => s
  | k + 1, s, m => absN k (comp s (m.take 64)) (m.drop 64)
/-- All whole pieces of a row of bytes. -/
def ab (m : List UInt8) : S8 := absN (m.length / 64) ivS m
/-- What stands behind a row's last whole piece. -/
def rem (m : List UInt8) : List UInt8 := m.drop (64 * (m.length / 64))
def be64 (x : UInt64) : List UInt8 := [56, 48, 40, 32, 24, 16, 8, 0].map fun i => (x >>> UInt64.ofNat i).toUInt8
def bitsOf (k : Nat) : UInt64 := 8 * UInt64.ofNat (k % 18446744073709551616)
/-- What is laid behind a row of k bytes. -/
def tailOf (k : Nat) : List UInt8 := 0x80 :: List.replicate ((119 - k % 64) % 64) 0 ++ be64 (bitsOf k)
def outW (x : UInt32) : List UInt8 := [(x >>> UInt32.ofNat 24).toUInt8, (x >>> UInt32.ofNat 16).toUInt8, (x >>> UInt32.ofNat 8).toUInt8, x.toUInt8]
def outS (s : S8) : List UInt8 := s.list.flatMap outW
/-- SHA-256. -/
def sha (m : List UInt8) : List UInt8 := outS (ab (m ++ tailOf m.length))

theorem absN_add : ∀ (a b : Nat) (s : S8) (m : List UInt8), absN (a + b) s m = absN b (absN a s m) (m.drop (64 * a))
  | 0, b, s, m => by simp [absN]
  | a + 1, b, s, m => by
    rw [show a + 1 + b = (a + b) + 1 by omega]
    simp only [absN]
    rw [absN_add a b, List.drop_drop]
    congr 2
    omega
theorem absN_append : ∀ (a : Nat) (s : S8) (m l : List UInt8), 64 * a ≤ m.length → absN a s (m ++ l) = absN a s m
  | 0, _, _, _, _ => rfl
  | a + 1, s, m, l, h => by
    simp only [absN]
    rw [List.take_append_of_le_length (by omega), List.drop_append_of_le_length (by omega), absN_append a _ _ _ (by simp; omega)]
theorem rem_length (m : List UInt8) : (rem m).length = m.length % 64 := by
  simp only [rem, List.length_drop]
  omega
theorem rem_nil {m : List UInt8} (h : m.length % 64 = 0) : rem m = [] := List.eq_nil_of_length_eq_zero (by rw [rem_length, h])
/-- A piece is made up of what was left and what comes. -/
theorem ab_full (m l : List UInt8) (h : (rem m ++ l).length = 64) : ab (m ++ l) = comp (ab m) (rem m ++ l) := by
  have hr := rem_length m
  rw [List.length_append, hr] at h
  have e1 : (m ++ l).length / 64 = m.length / 64 + 1 := by rw [List.length_append]; omega
  have e2 : 64 * (m.length / 64) ≤ m.length := by omega
  have e3 : (m ++ l).drop (64 * (m.length / 64)) = rem m ++ l := List.drop_append_of_le_length e2
  simp only [ab, e1]
  rw [absN_add, absN_append _ _ _ _ e2, e3]
  simp only [absN]
  rw [List.take_of_length_le (by rw [List.length_append, hr]; omega)]
theorem ab_short (m l : List UInt8) (h : m.length % 64 + l.length < 64) : ab (m ++ l) = ab m := by
  have e1 : (m ++ l).length / 64 = m.length / 64 := by rw [List.length_append]; omega
  simp only [ab, e1]
  exact absN_append _ _ _ _ (by omega)
theorem rem_short (m l : List UInt8) (h : m.length % 64 + l.length < 64) : rem (m ++ l) = rem m ++ l := by
  have e1 : (m ++ l).length / 64 = m.length / 64 := by rw [List.length_append]; omega
  simp only [rem, e1]
  exact List.drop_append_of_le_length (by omega)
end Go.Proofs.Ytdcmbcjkdhdohaa
