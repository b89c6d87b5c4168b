/- SHA-256 as plain functions. No Go program in sight. -/
import Derived.Test.YtbnbncnmhhioeaaDoorKit
import Derived.Test.YtbnbncnmhhioeaaDoorPShaAddsx2
namespace Go.Proofs.YtbnbncnmhhioeaaDoor.By
open Go.RowKit Go.Proofs.YtbnbncnmhhioeaaDoor.Reg Go.Proofs.YtbnbncnmhhioeaaDoorW.PrintWords Go.Proofs.YtbnbncnmhhioeaaDoorW.PrintLast Go.Proofs.YtbnbncnmhhioeaaDoorW.PrintMore
set_option linter.unusedVariables false

abbrev xr (a b : Int) : Int := Go.bits .xor .u32 a b
abbrev an (a b : Int) : Int := Go.bits .and .u32 a b
def ad (a b : Int) : Int := (a + b) % 4294967296
def rotF (n x : Int) : Int := Go.bits .or .u32 (shr .u32 x n) (shl .u32 x (IntKind.u64.wrap (32 - n)))
/-- The word t of a row's bytes. -/
def w0 (b : List Int) (t : Int) : Int := Go.bits .or .u32 (Go.bits .or .u32 (Go.bits .or .u32 ((((rd b (4 * t)) % 4294967296) * 16777216) % 4294967296) ((((rd b (4 * t + 1)) % 4294967296) * 65536) % 4294967296)) ((((rd b (4 * t + 2)) % 4294967296) * 256) % 4294967296)) ((rd b (4 * t + 3)) % 4294967296)
def wNext (w : List Int) (t : Int) : Int :=
  ad (ad (ad (xr (xr (rotF 17 (rd w (t - 2))) (rotF 19 (rd w (t - 2)))) (rd w (t - 2) / 1024)) (rd w (t - 7))) (xr (xr (rotF 7 (rd w (t - 15))) (rotF 18 (rd w (t - 15)))) (rd w (t - 15) / 8))) (rd w (t - 16))
def wordsA : Nat → List Int → List Int
  | 0, w => w
  | n + 1, w => wordsA n w ++ [wNext (wordsA n w) (wordsA n w).length]
def first16 (b : List Int) : Nat → List Int
  | 0 => []
  | n + 1 => first16 b n ++ [w0 b n]
def wordsF (b : List Int) : List Int := wordsA 48 (first16 b 16)
/-- A state. -/
structure S8 where
  (a b c d e f g h : Int)
def nt (x : Int) : Int := Go.bits .xor .u32 4294967295 x
def step (k w : Int) (s : S8) : S8 :=
  let t1 := ad (ad (ad (ad s.h (xr (xr (rotF 6 s.e) (rotF 11 s.e)) (rotF 25 s.e))) (xr (an s.e s.f) (an (nt s.e) s.g))) k) w
  let t2 := ad (xr (xr (rotF 2 s.a) (rotF 13 s.a)) (rotF 22 s.a)) (xr (xr (an s.a s.b) (an s.a s.c)) (an s.b s.c))
  ⟨ad t1 t2, s.a, s.b, s.c, ad s.d t1, s.e, s.f, s.g⟩
def kL : List Int := [1116352408, 1899447441, 3049323471, 3921009573, 961987163, 1508970993, 2453635748, 2870763221, 3624381080, 310598401, 607225278, 1426881987, 1925078388, 2162078206, 2614888103, 3248222580, 3835390401, 4022224774, 264347078, 604807628, 770255983, 1249150122, 1555081692, 1996064986, 2554220882, 2821834349, 2952996808, 3210313671, 3336571891, 3584528711, 113926993, 338241895, 666307205, 773529912, 1294757372, 1396182291, 1695183700, 1986661051, 2177026350, 2456956037, 2730485921, 2820302411, 3259730800, 3345764771, 3516065817, 3600352804, 4094571909, 275423344, 430227734, 506948616, 659060556, 883997877, 958139571, 1322822218, 1537002063, 1747873779, 1955562222, 2024104815, 2227730452, 2361852424, 2428436474, 2756734187, 3204031479, 3329325298]
def rounds (ws : List Int) : Nat → S8 → S8
  | 0, s => s
  | n + 1, s => step (rd kL n) (rd ws n) (rounds ws n s)
def add8 (s x : S8) : S8 := ⟨ad s.a x.a, ad s.b x.b, ad s.c x.c, ad s.d x.d, ad s.e x.e, ad s.f x.f, ad s.g x.g, ad s.h x.h⟩
def takeF (s : S8) (b : List Int) : S8 := add8 s (rounds (wordsF b) 64 s)
def s0 : S8 := ⟨1779033703, 3144134277, 1013904242, 2773480762, 1359893119, 2600822924, 528734635, 1541459225⟩
def S8.l (s : S8) : List Int := [s.a, s.b, s.c, s.d, s.e, s.f, s.g, s.h]
def foldB : Nat → S8 → List Int → S8
  | 0, s, _ => s
  | n + 1, s, l => foldB n (takeF s (l.take 64)) (l.drop 64)
def outB (s : S8) (i : Int) : Int := (shr .u32 (rd s.l (i / 4)) (24 - 8 * (i % 4))) % 256
def outA (s : S8) : Nat → List Int
  | 0 => []
  | n + 1 => outA s n ++ [outB s n]
def digest (s : S8) : List Int := outA s 32
def endA (n : Int) : Nat → List Int
  | 0 => []
  | k + 1 => endA n k ++ [(shr .u64 (IntKind.u64.wrap (IntKind.u64.wrap n * 8)) (8 * (7 - (k : Int)))) % 256]
/-- What stands behind n bytes. -/
def padF (n : Nat) : List Int := 128 :: (List.replicate ((119 - n % 64) % 64) 0 ++ endA n 8)
def rowsF (l : List Int) : List Int := l ++ padF l.length
def shaF (l : List Int) : List Int := digest (foldB ((l.length + (padF l.length).length) / 64) s0 (rowsF l))
theorem abc : shaF [97, 98, 99] = [186, 120, 22, 191, 143, 1, 207, 234, 65, 65, 64, 222, 93, 174, 34, 35, 176, 3, 97, 163, 150, 23, 122, 156, 180, 16, 255, 97, 242, 0, 21, 173] := by decide +kernel
end Go.Proofs.YtbnbncnmhhioeaaDoor.By
