/- Contracts of layer 2's words, as layer 6 calls them: eight bytes of a number, the number of eight bytes. Conditions: those that each theorem states. -/
import Derived.Test.YtkpcomldjnahhaaMem
import Derived.Lib.EndianBits
import Derived.Laws.CopyOwn
import Derived.Maps.AppendAt
namespace Go.Proofs.Ytkpcomldjnahhaa
open Go.ChangeShapes Go.WideShapes Go.ChangeAt Go.RowKit
set_option linter.unusedSimpArgs false

theorem inf5 : (Try.prog.info? 5).map (fun i => (i.zero, i.size, i.bytes)) = some (some (.int .u8 0), 1, 1) := by kernel_rfl

/-- The first k bytes of a number, the lowest first. -/
def lowB (n : Int) (k : Nat) : List Int := (List.range k).map fun j => n / 2 ^ (8 * j) % 256
theorem lowB_succ (n : Int) (k : Nat) : lowB n (k + 1) = lowB n k ++ [n / 2 ^ (8 * k) % 256] := by simp [lowB, List.range_succ]
theorem lowB_len (n : Int) (k : Nat) : (lowB n k).length = k := by simp [lowB]

set_option maxHeartbeats 1000000 in
theorem put_any (n : Int) (w : World) (h1 : n < 18446744073709551616) :
    Calls Try.prog 29 #[.int .u64 n, .int .i64 8] w fun e w' => ∃ v, e = .returned (.tuple #[v, .int .i64 0]) ∧ w'.ownsRow w.heap.size 5 1 v 8 (bytesV (lowB n 8)) ∧ Below w.heap.size w w' := by
  obtain ⟨i0, hi, hz0, hz1, hz2⟩ := info_parts inf5
  have hb64 : Hid (n < 18446744073709551616) := h1
  clear h1
  go_enter Try.func29, Try.ntmps29
  go_wp2
  go_loopw [6, 26] (fun v i wr => ∃ k : Nat, k ≤ 8 ∧ i = .int .i64 k ∧ wr.ownsRow w.heap.size 5 1 v k (bytesV (lowB n k)) ∧ Below w.heap.size w wr) (fun _ i _ => 8 - (intOf i).toNat)
  case atStart => exact ⟨0, Nat.zero_le _, rfl, World.ownsRow_nil _ _ _ _, Below.refl _ _⟩
  case round =>
    obtain ⟨k, hk, rfl, hown, hbel⟩ := hrel
    by_cases hlt : k < 8
    · go_wp2_with (at_builtin; go_loud (refine wpList_append_own _ rfl _ _ 31 rfl w.heap.size 5 i0 (.int .u8 0) 1 1 Try.underlying31 hi hz0 hz1 hz2 rfl (by decide) _ _ _ rfl (hown.alloc _) ⟨wr.heap.size, 0, none⟩ 1 1 [.int .u8 (n / 2 ^ (8 * k) % 256)] rfl rfl ?c1 ?c2 ?c3 ?c4 ?c5 ?_))
      case c1 => exact cell_one_new _ _ _
      case c2 => intro u hu; simp at hu; subst hu; rfl
      case c3 => unfold maxLen; omega
      case c4 => omega
      case c5 => have := hbel.size; simp; omega
      intro v' w1 hown' hgrow _
      have hn' : w1.ownsRow w.heap.size 5 1 v' (k + 1) (bytesV (lowB n (k + 1))) := by
        rw [lowB_succ]; simpa [bytesV] using hown'
      have hb' : Below w.heap.size w w1 := (hbel.alloc hbel.size _).grown hgrow (by have := hbel.size; simp; omega) (fun q hq => by
        rcases hown.2 with ⟨rfl, _⟩ | ⟨g, cap, cur, rfl, hg, _⟩ <;> simp [Value.ownBlock] at hq
        omega)
      clear hown hown' hgrow hbel
      go_wp2
      go_roundw
      case rel => exact ⟨k + 1, by omega, by go_num, hn', hb'⟩
      case measure => simp [intOf]; omega
    · go_wp2
      go_ret2
      obtain rfl : k = 8 := by omega
      exact ⟨_, rfl, hown, hbel⟩

/-- What a row of one's own has as its cells. -/
theorem owns_cells {w : World} {base n : Nat} {v : Value} {L : List Int} (h : w.ownsRow base 5 1 v n (bytesV L)) (h0 : 0 < n) :
    ∃ (b cap : Nat), v = .slice (some ⟨b, 0, none⟩) n cap ∧ base ≤ b ∧ n ≤ cap ∧ b < w.heap.size ∧ L.length = n ∧ ∀ j x, L[j]? = some x → w.cell? ⟨b, j, none⟩ = some (.int .u8 x) := by
  obtain ⟨hl, ⟨_, hz⟩ | ⟨b, cap, cur, rfl, hge, hrow, hle, _, hsz, htake⟩⟩ := h
  · omega
  · have hl' : L.length = n := by simpa [bytesV] using hl
    refine ⟨b, cap, rfl, hge, hle, (Array.getElem?_eq_some_iff.1 hrow).1, hl', ?_⟩
    intro j x hj
    have hc := cell_of_row w b j cur 5 (0, 0) hrow
    rw [hc]
    have hjn : j < n := by
      have := (List.getElem?_eq_some_iff.1 hj).1
      omega
    have := congrArg (fun l => l[j]?) htake
    simp only [Nat.mul_one, List.getElem?_take, hjn, if_true] at this
    rw [← Array.getElem?_toList, this, bytesV_get, hj]
    rfl

theorem put8 (n : Int) (w : World) (h1 : n < 18446744073709551616) :
    Calls Try.prog 29 #[.int .u64 n, .int .i64 8] w fun e w' => ∃ (b cap : Nat), e = .returned (.tuple #[.slice (some ⟨b, 0, none⟩) 8 cap, .int .i64 0]) ∧ w.heap.size ≤ b ∧ b < w'.heap.size ∧
      (∀ j x, (lowB n 8)[j]? = some x → w'.cell? ⟨b, j, none⟩ = some (.int .u8 x)) ∧ Below w.heap.size w w' := by
  refine (put_any n w h1).mono ?_
  rintro e w' ⟨v, rfl, hown, hb⟩
  obtain ⟨b, cap, rfl, hge, _, hlt, _, hc⟩ := owns_cells hown (by omega)
  exact ⟨b, cap, rfl, hge, hlt, hc, hb⟩

def num8 (a b c d e f g h : Int) : Int := a + 256 * b + 65536 * c + 16777216 * d + 4294967296 * e + 1099511627776 * f + 281474976710656 * g + 72057594037927936 * h

set_option maxHeartbeats 1000000 in
theorem get8 (B o : Nat) (cap : Nat) (a b c d e f g h : Int) (w : World) (ha : 0 ≤ a ∧ a < 256) (hb : 0 ≤ b ∧ b < 256) (hc : 0 ≤ c ∧ c < 256) (hd : 0 ≤ d ∧ d < 256) (he : 0 ≤ e ∧ e < 256) (hf : 0 ≤ f ∧ f < 256) (hg : 0 ≤ g ∧ g < 256) (hh : 0 ≤ h ∧ h < 256)
    (c0 : w.cell? ⟨B, o, none⟩ = some (.int .u8 a)) (c1 : w.cell? ⟨B, o + 1, none⟩ = some (.int .u8 b)) (c2 : w.cell? ⟨B, o + 2, none⟩ = some (.int .u8 c)) (c3 : w.cell? ⟨B, o + 3, none⟩ = some (.int .u8 d))
    (c4 : w.cell? ⟨B, o + 4, none⟩ = some (.int .u8 e)) (c5 : w.cell? ⟨B, o + 5, none⟩ = some (.int .u8 f)) (c6 : w.cell? ⟨B, o + 6, none⟩ = some (.int .u8 g)) (c7 : w.cell? ⟨B, o + 7, none⟩ = some (.int .u8 h)) :
    Calls Try.prog 38 #[.slice (some ⟨B, o, none⟩) 8 cap] w fun e' w' => e' = .returned (.int .u64 (num8 a b c d e f g h)) ∧ w = w' := by
  obtain ⟨ha1, ha2⟩ := ha
  obtain ⟨hb1, hb2⟩ := hb
  obtain ⟨hc1, hc2⟩ := hc
  obtain ⟨hd1, hd2⟩ := hd
  obtain ⟨he1, he2⟩ := he
  obtain ⟨hf1, hf2⟩ := hf
  obtain ⟨hg1, hg2⟩ := hg
  obtain ⟨hh1, hh2⟩ := hh
  go_enter Try.func38, Try.ntmps38
  go_wp2
  refine wp_loop_rounds 9 ?_
  iterate 9 (rw [rounds_succ]; go_wp2)
  go_ret
  refine ⟨ret_int ?_, rfl⟩
  rw [bits_join_low .u64 64 (by decide) wraps_u64 0 0 a (by omega) (by omega) (by omega) (by omega) (by omega) (by omega), Int.zero_add,
    u64_or8 (a) _ (by omega) (by omega) (by omega) (by omega) (by omega), u64_or16 (a + b * 256) _ (by omega) (by omega) (by omega) (by omega) (by omega), u64_or24 (a + b * 256 + c * 65536) _ (by omega) (by omega) (by omega) (by omega) (by omega),
    u64_or32 (a + b * 256 + c * 65536 + d * 16777216) _ (by omega) (by omega) (by omega) (by omega) (by omega), u64_or40 (a + b * 256 + c * 65536 + d * 16777216 + e * 4294967296) _ (by omega) (by omega) (by omega) (by omega) (by omega), u64_or48 (a + b * 256 + c * 65536 + d * 16777216 + e * 4294967296 + f * 1099511627776) _ (by omega) (by omega) (by omega) (by omega) (by omega), u64_or56 (a + b * 256 + c * 65536 + d * 16777216 + e * 4294967296 + f * 1099511627776 + g * 281474976710656) _ (by omega) (by omega) (by omega) (by omega) (by omega)]
  unfold num8
  omega

theorem word0 (B o : Nat) (cap : Nat) (a b c d e f g h : Int) (w : World) (ha : 0 ≤ a ∧ a < 256) (hb : 0 ≤ b ∧ b < 256) (hc : 0 ≤ c ∧ c < 256) (hd : 0 ≤ d ∧ d < 256) (he : 0 ≤ e ∧ e < 256) (hf : 0 ≤ f ∧ f < 256) (hg : 0 ≤ g ∧ g < 256) (hh : 0 ≤ h ∧ h < 256)
    (hcap : 8 ≤ cap) (c0 : w.cell? ⟨B, o, none⟩ = some (.int .u8 a)) (c1 : w.cell? ⟨B, o + 1, none⟩ = some (.int .u8 b)) (c2 : w.cell? ⟨B, o + 2, none⟩ = some (.int .u8 c)) (c3 : w.cell? ⟨B, o + 3, none⟩ = some (.int .u8 d))
    (c4 : w.cell? ⟨B, o + 4, none⟩ = some (.int .u8 e)) (c5 : w.cell? ⟨B, o + 5, none⟩ = some (.int .u8 f)) (c6 : w.cell? ⟨B, o + 6, none⟩ = some (.int .u8 g)) (c7 : w.cell? ⟨B, o + 7, none⟩ = some (.int .u8 h)) :
    Calls Try.prog 33 #[.slice (some ⟨B, o, none⟩) 8 cap, .int .i64 0] w fun e' w' => e' = .returned (.int .u64 (num8 a b c d e f g h)) ∧ w = w' := by
  have G := Lib.hid (fun cap => get8 B o cap a b c d e f g h w ha hb hc hd he hf hg hh c0 c1 c2 c3 c4 c5 c6 c7)
  clear c0 c1 c2 c3 c4 c5 c6 c7 ha hb hc hd he hf hg hh
  go_enter Try.func33, Try.ntmps33
  go_wp2_with (go_at_call 38; refine (G.out _).mono ?_; rintro e' w1 ⟨rfl, rfl⟩)
  go_ret
  exact ⟨rfl, rfl⟩
end Go.Proofs.Ytkpcomldjnahhaa
