/- Package sum: SHA256: the words of a block. -/
import Derived.Test.YtghimbpihmehoaaDoorMd5
import Derived.Test.YtghimbpihmehoaaDoorRowS
import Derived.Deep.RegionHeld3
import Derived.StillTailTactics
namespace Go.Proofs.YtghimbpihmehoaaDoor
open Go.RowKit

def rootsL : List Int := [1116352408, 1899447441, 3049323471, 3921009573, 961987163, 1508970993, 2453635748, 2870763221, 3624381080, 310598401, 607225278, 1426881987, 1925078388, 2162078206, 2614888103, 3248222580, 3835390401, 4022224774, 264347078, 604807628, 770255983, 1249150122, 1555081692, 1996064986, 2554220882, 2821834349, 2952996808, 3210313671, 3336571891, 3584528711, 113926993, 338241895, 666307205, 773529912, 1294757372, 1396182291, 1695183700, 1986661051, 2177026350, 2456956037, 2730485921, 2820302411, 3259730800, 3345764771, 3516065817, 3600352804, 4094571909, 275423344, 430227734, 506948616, 659060556, 883997877, 958139571, 1322822218, 1537002063, 1747873779, 1955562222, 2024104815, 2227730452, 2361852424, 2428436474, 2756734187, 3204031479, 3329325298]
def beginL : List Int := [1779033703, 3144134277, 1013904242, 2773480762, 1359893119, 2600822924, 528734635, 1541459225]
structure ShTabs (w : World) : Prop where
  r : TabAt w 3 .u32 rootsL
  b : TabAt w 2 .u32 beginL
theorem ShTabs.fr {w w' : World} (h : ShTabs w) (hf : Fr noB w w') : ShTabs w' := ⟨h.r.fr hf, h.b.fr hf⟩
def xor3 (a b c : Int) : Int := bits .xor .u32 (bits .xor .u32 a b) c
def sig0 (x : Int) : Int := xor3 (rotI x 25) (rotI x 14) (x / 8)
def sig1 (y : Int) : Int := xor3 (rotI y 15) (rotI y 13) (y / 1024)
/-- the i-th word of a block, those ahead of it given -/
def shNew (X : List UInt8) (l : List Int) (i : Nat) : Int := if i < 16 then wordL false (X.drop (4 * i)) else (l.getD (i - 16) 0 + l.getD (i - 7) 0 + sig0 (l.getD (i - 15) 0) + sig1 (l.getD (i - 2) 0)) % 4294967296
def shAdd (X : List UInt8) (l : List Int) (i : Nat) : List Int := l ++ [shNew X l i]
def shW (X : List UInt8) : Nat → List Int
  | 0 => []
  | i + 1 => shAdd X (shW X i) i
theorem shW_len (X : List UInt8) : ∀ i, (shW X i).length = i
  | 0 => rfl
  | i + 1 => by rw [shW, shAdd, List.length_append, shW_len X i]; rfl
theorem rb (x : Int) (w : World) (j n : Nat) (h : (decide (0 < j ∧ j < 32 ∧ n < 32 ∧ bits .and .u64 (-(j : Int) + 18446744073709551616) 31 = (n : Int))) = true) :
    Calls Tryd.prog 69 #[.int .u32 x, .int .i64 (-(j : Int))] w fun e w' => e = .returned (.int .u32 (rotI x n)) ∧ w' = w := by
  have h := of_decide_eq_true h
  exact (rot_neg x (-(j : Int)) n w (by omega) (by omega) h.2.2.2 h.2.2.1).mono fun _ _ ⟨he, hw⟩ => ⟨he, hw.symm⟩
theorem rot7 (x : Int) (w : World) : Calls Tryd.prog 69 #[.int .u32 x, .int .i64 (-7)] w fun e w' => e = .returned (.int .u32 (rotI x 25)) ∧ w' = w := rb x w 7 25 (by decide +kernel)
theorem rot18 (x : Int) (w : World) : Calls Tryd.prog 69 #[.int .u32 x, .int .i64 (-18)] w fun e w' => e = .returned (.int .u32 (rotI x 14)) ∧ w' = w := rb x w 18 14 (by decide +kernel)
theorem rot17 (x : Int) (w : World) : Calls Tryd.prog 69 #[.int .u32 x, .int .i64 (-17)] w fun e w' => e = .returned (.int .u32 (rotI x 15)) ∧ w' = w := rb x w 17 15 (by decide +kernel)
theorem rot19 (x : Int) (w : World) : Calls Tryd.prog 69 #[.int .u32 x, .int .i64 (-19)] w fun e w' => e = .returned (.int .u32 (rotI x 13)) ∧ w' = w := rb x w 19 13 (by decide +kernel)
theorem rot6 (x : Int) (w : World) : Calls Tryd.prog 69 #[.int .u32 x, .int .i64 (-6)] w fun e w' => e = .returned (.int .u32 (rotI x 26)) ∧ w' = w := rb x w 6 26 (by decide +kernel)
theorem rot11 (x : Int) (w : World) : Calls Tryd.prog 69 #[.int .u32 x, .int .i64 (-11)] w fun e w' => e = .returned (.int .u32 (rotI x 21)) ∧ w' = w := rb x w 11 21 (by decide +kernel)
theorem rot25 (x : Int) (w : World) : Calls Tryd.prog 69 #[.int .u32 x, .int .i64 (-25)] w fun e w' => e = .returned (.int .u32 (rotI x 7)) ∧ w' = w := rb x w 25 7 (by decide +kernel)
theorem rot2 (x : Int) (w : World) : Calls Tryd.prog 69 #[.int .u32 x, .int .i64 (-2)] w fun e w' => e = .returned (.int .u32 (rotI x 30)) ∧ w' = w := rb x w 2 30 (by decide +kernel)
theorem rot13 (x : Int) (w : World) : Calls Tryd.prog 69 #[.int .u32 x, .int .i64 (-13)] w fun e w' => e = .returned (.int .u32 (rotI x 19)) ∧ w' = w := rb x w 13 19 (by decide +kernel)
theorem rot22 (x : Int) (w : World) : Calls Tryd.prog 69 #[.int .u32 x, .int .i64 (-22)] w fun e w' => e = .returned (.int .u32 (rotI x 10)) ∧ w' = w := rb x w 22 10 (by decide +kernel)

structure Sh where
  v0 : Int
  v1 : Int
  v2 : Int
  v3 : Int
  v4 : Int
  v5 : Int
  v6 : Int
  v7 : Int
def ShIs (w : World) (g : Nat) (h : Sh) : Prop := w.heap[g]? = some (.cells #[.int .u32 h.v0, .int .u32 h.v1, .int .u32 h.v2, .int .u32 h.v3, .int .u32 h.v4, .int .u32 h.v5, .int .u32 h.v6, .int .u32 h.v7] 97 (0, 0))
/-- one of the 64 turns -/
def shP (ws : List Int) (k : Nat) (v : Sh) : Int := (v.v7 + xor3 (rotI v.v4 26) (rotI v.v4 21) (rotI v.v4 7) + bits .xor .u32 (bits .and .u32 v.v4 v.v5) (bits .and .u32 (notI v.v4) v.v6) + rootsL.getD k 0 + ws.getD k 0) % 4294967296
def shQ (v : Sh) : Int := (xor3 (rotI v.v0 30) (rotI v.v0 19) (rotI v.v0 10) + xor3 (bits .and .u32 v.v0 v.v1) (bits .and .u32 v.v0 v.v2) (bits .and .u32 v.v1 v.v2)) % 4294967296
def shMix (v : Sh) (p q : Int) : Sh := ⟨(p + q) % 4294967296, v.v0, v.v1, v.v2, (v.v3 + p) % 4294967296, v.v4, v.v5, v.v6⟩
def shTurns (ws : List Int) (h : Sh) : Nat → Sh
  | 0 => h
  | k + 1 => shMix (shTurns ws h k) (shP ws k (shTurns ws h k)) (shQ (shTurns ws h k))
def shSum (h v : Sh) : Sh := ⟨(h.v0 + v.v0) % 4294967296, (h.v1 + v.v1) % 4294967296, (h.v2 + v.v2) % 4294967296, (h.v3 + v.v3) % 4294967296, (h.v4 + v.v4) % 4294967296, (h.v5 + v.v5) % 4294967296, (h.v6 + v.v6) % 4294967296, (h.v7 + v.v7) % 4294967296⟩
def shBlock (X : List UInt8) (h : Sh) : Sh := shSum h (shTurns (shW X 64) h 64)
def sh0 : Sh := ⟨1779033703, 3144134277, 1013904242, 2773480762, 1359893119, 2600822924, 528734635, 1541459225⟩
def shTo (T : List UInt8) : Nat → Sh
  | 0 => sh0
  | k + 1 => shBlock (T.drop (64 * k)) (shTo T k)
def Sh.list (s : Sh) : List Int := [s.v0, s.v1, s.v2, s.v3, s.v4, s.v5, s.v6, s.v7]
/-- sum.SHA256 -/
def shaL (l : List UInt8) : List UInt8 := sumTextL false (shTo (padL false l) ((padL false l).length / 64)).list
def ShOut (T : ByteArray) (g : Nat) (w : World) (t : Value) (wr : World) : Prop := ∃ k : Nat, 64 * k ≤ T.size ∧ t = .string (T.extract (64 * k) T.size) ∧ ShIs wr g (shTo T.data.toList k) ∧ Fr noB w wr
/-- block g: the words so far, and zeros -/
def WsAt (w : World) (g : Nat) (l : List Int) : Prop := w.heap[g]? = some (.cells ((l ++ List.replicate (64 - l.length) 0).map (Value.int .u32)).toArray 91 (0, 0))
end Go.Proofs.YtghimbpihmehoaaDoor
