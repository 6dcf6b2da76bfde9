/- The contract of (*entries.reader).field, whatever field. -/
import Derived.Test.YtgjgjhikimnknaaReadRecord
set_option linter.unusedVariables false
set_option linter.unusedSimpArgs false
namespace Go.Proofs.Ytgjgjhikimnknaa
open Go.RowKit

/-- How far bytes were read, whether they are none, what was read. -/
structure Rd where
  a : Int
  bad : Bool
  e : Ent
/-- One field is read. -/
def fieldR (s : ByteArray) (x : Rd) (f : Int) : Rd :=
  if f = 0 then ⟨numA s x.a 1, x.bad || !numOk s x.a 1, { x.e with stream := numN s x.a 1 }⟩
  else if f = 1 then ⟨numA s x.a 4, x.bad || !numOk s x.a 4, { x.e with n := numN s x.a 4 }⟩
  else if f = 2 then ⟨textA s x.a, x.bad || !textOk s x.a, { x.e with name := textN s x.a }⟩
  else ⟨numA s (numA s (hashA s (numA s x.a 2)) 2) 2, (((x.bad || !numOk s x.a 2) || !thereB s (numA s x.a 2) 32) || !numOk s (hashA s (numA s x.a 2)) 2) || !numOk s (numA s (hashA s (numA s x.a 2)) 2) 2,
    { x.e with len := numN s x.a 2, hash := hashN s (numA s x.a 2), start := numN s (hashA s (numA s x.a 2)) 2, count := numN s (numA s (hashA s (numA s x.a 2)) 2) 2 }⟩
theorem readfield_calls (g q : Nat) (s : ByteArray) (x : Rd) (f : Int) (hf : f = 0 ∨ f = 1 ∨ f = 2 ∨ f = 3) (hs : s.size ≤ maxLen) (w : World) (hg : w.heap[g]? = some (.cells (readC s x.a x.bad) 70 (0, 0))) (hq : w.heap[q]? = some (.cells (entC x.e) 27 (0, 0))) :
    Calls Try.prog 35 #[.pointer (some ⟨g, 0, none⟩), .int .i64 f, .pointer (some ⟨q, 0, none⟩)] w fun r w' => r = .returned (.tuple #[]) ∧
      St [g, q] w w' [(g, readC s (fieldR s x f).a (fieldR s x f).bad, 70), (q, entC (fieldR s x f).e, 27)] := by
  rcases hf with rfl | rfl | rfl | rfl
  · exact readfield_stream g q s x.a x.bad x.e hs w hg hq
  · exact readfield_number g q s x.a x.bad x.e hs w hg hq
  · exact readfield_name g q s x.a x.bad x.e hs w hg hq
  · exact readfield_record g q s x.a x.bad x.e hs w hg hq

/-- Behind what turns two blocks of the list at most. -/
theorem St.upd2 {S : List Nat} {w0 w w' : World} {g q : Nat} {C C' D D' : Array Value} {T U : TypeId} {L : List Blk} (h : St S w0 w ((g, C, T) :: (q, D, U) :: L)) (k : St [g, q] w w' [(g, C', T), (q, D', U)]) : St S w0 w' ((g, C', T) :: (q, D', U) :: L) where
  os := k.os.trans h.os
  tape := k.tape.trans h.tape
  output := k.output.trans h.output
  size := Nat.le_trans h.size k.size
  kept j hj hs := by
    refine (k.kept j (Nat.lt_of_lt_of_le hj h.size) ?_).trans (h.kept j hj hs)
    intro hm
    have hm' : j = g ∨ j = q := by simpa using hm
    rcases hm' with rfl | rfl
    · rcases h.own (j, C, T) (by simp) with h1 | h1
      · simp at h1; omega
      · exact hs h1
    · rcases h.own (j, D, U) (by simp) with h1 | h1
      · simp at h1; omega
      · exact hs h1
  own p hp := by
    have hp' : p = (g, C', T) ∨ p = (q, D', U) ∨ p ∈ L := by simpa using hp
    rcases hp' with rfl | rfl | h1
    · exact h.own (g, C, T) (by simp)
    · exact h.own (q, D, U) (by simp)
    · exact h.own p (by simp [h1])
  nodup := by simpa using h.nodup
  blk p hp := by
    have hp' : p = (g, C', T) ∨ p = (q, D', U) ∨ p ∈ L := by simpa using hp
    rcases hp' with rfl | rfl | h1
    · exact k.blk _ (by simp)
    · exact k.blk _ (by simp)
    · have hn := h.nodup
      simp only [List.map_cons, List.nodup_cons, List.mem_cons, not_or] at hn
      have hg : p.1 ≠ g := fun e => hn.1.2 (List.mem_map.2 ⟨p, h1, e⟩)
      have hq : p.1 ≠ q := fun e => hn.2.1 (List.mem_map.2 ⟨p, h1, e⟩)
      rw [k.kept _ (h.lt p (by simp [h1])) (by simp [hg, hq])]
      exact h.blk p (by simp [h1])
end Go.Proofs.Ytgjgjhikimnknaa
