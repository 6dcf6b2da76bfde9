/- The contract of words.Put: the bytes of a number of a size, or nothing. -/
import Derived.Test.YtgjgjhikimnknaaSize
import Derived.Deep.QuietTactic
import Derived.BigQuiet
import Derived.Laws.MakeOwn
import Derived.Laws.NewBlocks
import Derived.Laws.BitsLemmas
import Derived.Laws.IdiomStrings
import Derived.Deep.RegionWith
namespace Go.Proofs.Ytgjgjhikimnknaa
open Go.RowKit

def be : Nat → Nat → List UInt8
  | 0, _ => []
  | i + 1, n => UInt8.ofNat (n / 256 ^ i) :: be i n
def u8s (l : List UInt8) : List Value := l.map fun c => .int .u8 c.toNat
def putCells (b k n : Nat) : Array Value := (u8s (List.replicate (b - k) 0 ++ be k n)).toArray

theorem T29 : Try.prog.underlying 42 = some (.slice 5) := by kernel_rfl
theorem I5 : (Try.prog.info? 5).map (fun i => (i.zero, i.size, i.bytes)) = some (some (.int .u8 0), 1, 1) := by kernel_rfl

theorem be_length (k n : Nat) : (be k n).length = k := by induction k with | zero => rfl | succ k ih => simp [be, ih]

theorem make_u8 (w : World) (b : Nat) (hb : b ≤ 8) (n : Nat) : (Instr.makeSlice 42 (.int .i64 b) (.int .i64 b)).run Try.prog w = .ok (.slice (some ⟨w.heap.size, 0, none⟩) b b) (w.alloc (.cells (putCells b 0 n) 5)) := by
  obtain ⟨i0, hi, hz0, hz1, hz2⟩ := info_parts I5
  have h := run_make (P := Try.prog) w 42 5 i0 (.int .u8 0) T29 hi hz0 .i64 .i64 b b (by omega) (by omega) (by rw [hz2]; omega) (by omega)
  rw [h, hz1]
  have e : madeCells (Value.int .u8 0).cells ((b : Int).toNat * 1) = putCells b 0 n := by
    apply Array.ext
    · simp [madeCells, putCells, u8s, be]
    · intro i h1 h2
      simp [madeCells, putCells, u8s, be, Value.cells, Nat.mod_one]
  rw [e]
  simp

theorem put_byte (n i : Nat) : IntKind.u8.wrap ((n : Int) / 2 ^ (8 * i)) = ((UInt8.ofNat (n / 256 ^ i)).toNat : Int) := by
  have h : (2 : Int) ^ (8 * i) = ((256 ^ i : Nat) : Int) := by rw [Int.pow_mul]; simp
  rw [h, ← Int.natCast_ediv]
  simp [IntKind.wrap, IntKind.signed, IntKind.bits]

theorem put_byte' (n i : Nat) : ((UInt8.ofNat (n / 256 ^ i)).toNat : Int) = (n : Int) / 2 ^ (8 * i) % 256 := by
  have h : (2 : Int) ^ (8 * i) = ((256 ^ i : Nat) : Int) := by rw [Int.pow_mul]; simp
  rw [h, ← Int.natCast_ediv]
  simp

theorem put_cell (b k n : Nat) (hk : k < b) : (putCells b k n)[b - 1 - k]? = some (.int .u8 0) := by
  obtain ⟨m, rfl⟩ : ∃ m, b = k + 1 + m := ⟨b - (k + 1), by omega⟩
  have e1 : k + 1 + m - k = m + 1 := by omega
  have e2 : k + 1 + m - 1 - k = m := by omega
  simp only [putCells, e1, e2]
  simp [u8s, List.getElem?_append]

theorem T9 : Try.prog.underlying 9 = some .string := by kernel_rfl
theorem U5 : Try.prog.underlying 5 = some (.int .u8) := by kernel_rfl
theorem put_back (w : World) (b n : Nat) : (convert 42 9 (.slice (some ⟨w.heap.size, 0, none⟩) b b)).run Try.prog (w.alloc (.cells (putCells b b n) 5)) = .ok (.string ⟨(be b n).toArray⟩) (w.alloc (.cells (putCells b b n) 5)) := by
  have h := run_convert_bytes_back (P := Try.prog) (w.alloc (.cells (putCells b b n) 5)) 42 9 5 ⟨w.heap.size, 0, none⟩ b (be b n) T29 U5 T9 (fun j hj => by
    have ha : (⟨w.heap.size, 0, none⟩ : Addr).add j = ⟨w.heap.size, j, none⟩ := by unfold Addr.add; split <;> simp_all
    rw [ha, World.cell?_alloc_at _ _ _ _ rfl]
    simp [putCells, u8s, hj])
  rw [be_length] at h
  exact h

theorem put_step (b k n : Nat) (hk : k < b) : (putCells b k n).setIfInBounds (b - 1 - k) (.int .u8 ((UInt8.ofNat (n / 256 ^ k)).toNat : Int)) = putCells b (k + 1) n := by
  obtain ⟨m, rfl⟩ : ∃ m, b = k + 1 + m := ⟨b - (k + 1), by omega⟩
  have e1 : k + 1 + m - k = m + 1 := by omega
  have e2 : k + 1 + m - 1 - k = m := by omega
  have e3 : k + 1 + m - (k + 1) = m := by omega
  simp only [putCells, e1, e2, e3, be]
  simp [u8s, List.replicate_succ', List.setIfInBounds_toArray]

set_option maxHeartbeats 400000 in
theorem put_calls (n : Nat) (b : Nat) (hb : sizeB b = true) (hn : b < 8 → n < 256 ^ b) (_h63 : n ≤ 9223372036854775807) (w : World) :
    Calls Try.prog 21 #[.int .i64 n, .int .i64 b] w fun e w' => e = .returned (.string ⟨(be b n).toArray⟩) ∧ Below w.heap.size w w' := by
  have hb8 : b ≤ 8 := by simp [sizeB] at hb; omega
  have hmk := make_u8 w b hb8 n
  have hneg : decide ((n : Int) < 0) = false := by simp
  have hsh : b < 8 → decide (0 < (n : Int) / 2 ^ (8 * b)) = false := by
    intro h
    have h' : (2 : Int) ^ (8 * b) = ((256 ^ b : Nat) : Int) := by rw [Int.pow_mul]; simp
    rw [h', ← Int.natCast_ediv, Nat.div_eq_of_lt (hn h)]
    rfl
  have hcases : (decide ((b : Int) < 8) = true ∧ decide (0 < (n : Int) / 2 ^ (8 * b)) = false) ∨ decide ((b : Int) < 8) = false := by
    by_cases h : b < 8
    · exact Or.inl ⟨by simp; omega, hsh h⟩
    · exact Or.inr (by simp; omega)
  clear hsh hn
  have HB := Lib.hid hb
  clear hb
  rcases hcases with ⟨hc1, hc2⟩ | hc1
  all_goals
    go_enter Try.func21, Try.ntmps21
    go_wp2_with fail
    refine (size_calls b _).mono ?_
    rintro e w' ⟨rfl, rfl⟩
    rw [HB.out]
    go_wp2_with fail
    clear hmk
    go_loopw [28] (fun i wr => ∃ k : Nat, k ≤ b ∧ i = .int .i64 k ∧ wr = w.alloc (.cells (putCells b k n) 5)) (fun i _ => b - (intOf i).toNat)
    case atStart => exact ⟨0, by omega, rfl, rfl⟩
    case round =>
      obtain ⟨k, hk, rfl, rfl⟩ := hrel
      by_cases hlt : k < b
      · have hcell := put_cell b k n hlt
        go_wp2
        go_round
        case rel => exact ⟨k + 1, by omega, by go_num, by rw [← put_step b k n hlt, put_byte']⟩
        case measure => simp [intOf]; omega
      · obtain rfl : k = b := by omega
        have hback := put_back w k n
        go_wp2
        go_ret
        exact ⟨rfl, (Below.refl _ _).alloc (Nat.le_refl _) _⟩

def fitsB (n b : Int) : Bool := sizeB b && (decide (0 ≤ n) && (decide (8 ≤ b) || decide (n.toNat < 256 ^ b.toNat)))
def putF (n b : Int) : ByteArray := if fitsB n b then ⟨(be b.toNat n.toNat).toArray⟩ else ⟨#[]⟩
theorem sizeB_range {b : Int} (h : sizeB b = true) : 1 ≤ b ∧ b ≤ 8 := by simp [sizeB] at h; omega

set_option maxHeartbeats 400000 in
theorem put_no_size (n b : Int) (hb : sizeB b = false) (w : World) :
    Calls Try.prog 21 #[.int .i64 n, .int .i64 b] w fun e w' => e = .returned (.string ⟨#[]⟩) ∧ Below w.heap.size w w' := by
  have HB := Lib.hid hb
  clear hb
  go_enter Try.func21, Try.ntmps21
  go_wp2_with fail
  refine (size_calls b _).mono ?_
  rintro e w' ⟨rfl, rfl⟩
  rw [HB.out]
  go_wp2_with fail
  go_ret
  exact ⟨rfl, Below.refl _ _⟩

set_option maxHeartbeats 400000 in
theorem put_neg (n b : Int) (hb : sizeB b = true) (hn : n < 0) (w : World) :
    Calls Try.prog 21 #[.int .i64 n, .int .i64 b] w fun e w' => e = .returned (.string ⟨#[]⟩) ∧ Below w.heap.size w w' := by
  have HB := Lib.hid hb
  clear hb
  go_enter Try.func21, Try.ntmps21
  go_wp2_with fail
  refine (size_calls b _).mono ?_
  rintro e w' ⟨rfl, rfl⟩
  rw [HB.out]
  go_wp2_with fail
  go_ret
  exact ⟨rfl, Below.refl _ _⟩

set_option maxHeartbeats 400000 in
theorem put_big (n b : Nat) (hb : sizeB b = true) (hb8 : b < 8) (hn : 256 ^ b ≤ n) (w : World) :
    Calls Try.prog 21 #[.int .i64 n, .int .i64 b] w fun e w' => e = .returned (.string ⟨#[]⟩) ∧ Below w.heap.size w w' := by
  have HB := Lib.hid hb
  clear hb
  have hneg : decide ((n : Int) < 0) = false := by simp
  have hsh : decide (0 < (n : Int) / 2 ^ (8 * b)) = true := by
    have h' : (2 : Int) ^ (8 * b) = ((256 ^ b : Nat) : Int) := by rw [Int.pow_mul]; simp
    rw [h', ← Int.natCast_ediv]
    have := Nat.div_pos hn (Nat.pow_pos (by omega))
    simp only [decide_eq_true_eq]
    omega
  clear hn
  go_enter Try.func21, Try.ntmps21
  go_wp2_with fail
  refine (size_calls b _).mono ?_
  rintro e w' ⟨rfl, rfl⟩
  rw [HB.out]
  go_wp2_with fail
  go_ret
  exact ⟨rfl, Below.refl _ _⟩

theorem put_any (n b : Int) (hn : n ≤ 9223372036854775807) (w : World) :
    Calls Try.prog 21 #[.int .i64 n, .int .i64 b] w fun e w' => e = .returned (.string (putF n b)) ∧ Below w.heap.size w w' := by
  unfold putF fitsB
  cases hb : sizeB b with
  | false => simpa using put_no_size n b hb w
  | true =>
    obtain ⟨h1, h2⟩ := sizeB_range hb
    obtain ⟨b, rfl⟩ := Int.eq_ofNat_of_zero_le (show 0 ≤ b by omega)
    by_cases h0 : n < 0
    · have e : decide (0 ≤ n) = false := by simp; omega
      rw [e]
      simpa using put_neg n b hb h0 w
    · obtain ⟨n, rfl⟩ := Int.eq_ofNat_of_zero_le (show 0 ≤ n by omega)
      by_cases h8 : b < 8
      · by_cases hl : n < 256 ^ b
        · have := put_calls n b hb (fun _ => hl) (by omega) w
          simpa [hl] using this
        · have := put_big n b hb h8 (by omega) w
          have e : decide ((8 : Int) ≤ b) = false := by simp; omega
          simpa [hl, e] using this
      · have := put_calls n b hb (fun h => absurd h h8) (by omega) w
        have e : decide ((8 : Int) ≤ b) = true := by simp; omega
        simpa [e] using this
end Go.Proofs.Ytgjgjhikimnknaa
