/- The blocks of the sum, on words. -/
import Derived.Test.YtndhmnoehapdhaaDoorPH1
import Derived.Test.YtndhmnoehapdhaaDoorG0
namespace Go.Proofs.SL
open Go
def kW (j : Nat) : Wd := t32 (gA0.getD j 0)
theorem gA0_arr : gA0 = arr 64 kW := by kernel_rfl
def sg0 (a : Wd) : Wd := ror a 7 ^^^ ror a 18 ^^^ a >>> 3
def sg1 (b : Wd) : Wd := ror b 17 ^^^ ror b 19 ^^^ b >>> 10
def sch1 (s : ByteArray) (i : Nat) (f : Nat → Wd) : Nat → Wd := upd f i (wrd s (4 * i))
def sch2 (i : Nat) (f : Nat → Wd) : Nat → Wd := upd f (i + 16) (f i + sg0 (f (i + 1)) + f (i + 9) + sg1 (f (i + 14)))
def bg1 (e : Wd) : Wd := ror e 6 ^^^ ror e 11 ^^^ ror e 25
def bg0 (e : Wd) : Wd := ror e 2 ^^^ ror e 13 ^^^ ror e 22
def chs (e f g : Wd) : Wd := (e &&& f) ^^^ ((BitVec.allOnes 32 ^^^ e) &&& g)
def mst (a b c : Wd) : Wd := (a &&& b) ^^^ (a &&& c) ^^^ (b &&& c)
def tmp (w : Nat → Wd) (i : Nat) (v : Nat → Wd) : Wd := v 7 + bg1 (v 4) + chs (v 4) (v 5) (v 6) + kW i + w i
def rnd (w : Nat → Wd) (i : Nat) (v : Nat → Wd) : Nat → Wd
  | 0 => tmp w i v + bg0 (v 0) + mst (v 0) (v 1) (v 2)
  | 1 => v 0
  | 2 => v 1
  | 3 => v 2
  | 4 => v 3 + tmp w i v
  | 5 => v 4
  | 6 => v 5
  | _ => v 6
def wAll (s : ByteArray) : Nat → Wd := it sch2 48 (it (sch1 s) 16 fun _ => 0)
def shaB (h : Nat → Wd) (s : ByteArray) : Nat → Wd := fun j => h j + it (rnd (wAll s)) 64 h j
theorem arr_zero (n : Nat) : List.replicate n (0 : Int) = arr n fun _ => 0 := by
  unfold arr
  apply List.ext_getElem?
  intro k
  by_cases h : k < n
  · rw [List.getElem?_replicate, if_pos h, List.getElem?_map, List.getElem?_range h]; rfl
  · rw [List.getElem?_replicate, if_neg h, List.getElem?_eq_none (by simp; omega)]
theorem arr8 (f : Nat → Wd) : arr 8 f = [iv (f 0), iv (f 1), iv (f 2), iv (f 3), iv (f 4), iv (f 5), iv (f 6), iv (f 7)] := rfl
section
variable {α β : Type}
theorem bnd {o : Option α} {a : α} {f : α → Option β} {r : Option β} (h : o = some a) (k : f a = r) : Option.bind o f = r := by rw [h]; exact k
theorem condT {b : Bool} {x y r : α} (h : b = true) (k : x = r) : cond b x y = r := by rw [h]; exact k
theorem condF {b : Bool} {x y r : α} (h : b = false) (k : y = r) : cond b x y = r := by rw [h]; exact k
end
theorem a8_0 : ack 8 0 = some 0 := rfl
theorem a8_1 : ack 8 1 = some 1 := rfl
theorem a8_2 : ack 8 2 = some 2 := rfl
theorem a8_3 : ack 8 3 = some 3 := rfl
theorem a8_4 : ack 8 4 = some 4 := rfl
theorem a8_5 : ack 8 5 = some 5 := rfl
theorem a8_6 : ack 8 6 = some 6 := rfl
theorem a8_7 : ack 8 7 = some 7 := rfl
theorem g8 (f : Nat → Wd) (j : Nat) (h : j < 8) : (arr 8 f)[j]? = some (iv (f j)) := arr_get f h
theorem i8 (f : Nat → Wd) (j : Nat) (h : j < 8) {i : Int} (hi : i = (j : Int)) : idx (arr 8 f) i = some (iv (f j)) := by subst hi; exact arr_idx f h
theorem upd_self (f : Nat → Wd) (j : Nat) (v : Wd) : upd f j v j = v := if_pos rfl
/-- A part of a text. -/
theorem byt_extract {s : ByteArray} {a b j : Nat} (h : a + j < b) (hb : b ≤ s.size) : byt (s.extract a b) j = byt s (a + j) := by
  unfold byt
  rw [dif_pos (by rw [ByteArray.size_extract]; omega), dif_pos (by omega)]
  exact ByteArray.getElem_extract ..
theorem wrd_extract {s : ByteArray} {a b : Nat} (h : a + 4 ≤ b) (hb : b ≤ s.size) : wrd (s.extract a b) 0 = wrd s a := by
  unfold wrd
  rw [byt_extract (by omega) hb, byt_extract (by omega) hb, byt_extract (by omega) hb, byt_extract (by omega) hb]
  rfl
theorem i3 : (3 : Int).toNat = 3 := rfl
theorem i8' : (8 : Int).toNat = 8 := rfl
theorem i10 : (10 : Int).toNat = 10 := rfl
theorem i16 : (16 : Int).toNat = 16 := rfl
theorem i24 : (24 : Int).toNat = 24 := rfl
end Go.Proofs.SL
