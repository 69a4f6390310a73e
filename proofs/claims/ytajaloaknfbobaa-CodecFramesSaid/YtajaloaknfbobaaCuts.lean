/- Layer 1: frames that are cut. No program in sight. -/
import Derived.Test.YtajaloaknfbobaaW18
import Derived.Test.YtajaloaknfbobaaCrc
set_option linter.unusedVariables false
set_option linter.unusedSimpArgs false
namespace Go.Proofs.Ytajaloaknfbobaa
open Go.Gx Go.Gx.Cod Go.RowKit
/-- frames, one behind the other -/
def cat (ls : List (List UInt8)) : List UInt8 := (ls.map seal_).flatten
theorem cat_nil : cat [] = [] := rfl
theorem cat_cons (x : List UInt8) (ls : List (List UInt8)) : cat (x :: ls) = seal_ x ++ cat ls := rfl
theorem cat_snoc (ls : List (List UInt8)) (x : List UInt8) : cat (ls ++ [x]) = cat ls ++ seal_ x := by simp [cat]
theorem seal_split (x rest : List UInt8) : seal_ x ++ rest = enc x.length ++ (x ++ (sum4 (crc x) ++ rest)) := by simp [seal_]
theorem seal_length (x : List UInt8) : (seal_ x).length = (enc x.length).length + x.length + 4 := seal_len x
theorem openM_seal {x rest : List UInt8} (h : x.length ≤ 4096) : openM (seal_ x ++ rest) = (x, (seal_ x).length, 0) := by
  have hn : numM (seal_ x ++ rest) 0 0 = ((enc x.length).length, 0, x.length) := by rw [seal_split]; exact numM_enc0 (by omega) _
  have h1 : ((seal_ x ++ rest).drop (enc x.length).length).take x.length = x := by rw [seal_split, List.drop_left, List.take_left]
  have h2 : ((seal_ x ++ rest).drop ((enc x.length).length + x.length)).take 4 = sum4 (crc x) := by
    rw [seal_split, ← List.drop_drop, List.drop_left, List.drop_left]
    exact List.take_left' (by simp [sum4])
  rw [openM_ok hn h (by rw [List.length_append, seal_length]; omega) (by rw [h1, h2]; exact sum4_le _), h1, seal_length]
theorem numM_cut : ∀ (n i acc m : Nat), i ≤ 9 → n < 2 ^ (64 - 7 * i) → (i = 0 ∨ 0 < n) → m < (enc n).length → numM ((enc n).take m) i acc = (m, 3, 0) := by
  intro n
  induction n using Nat.strongRecOn with
  | _ n ih =>
    intro i acc m hi hn hz hm
    match m with
    | 0 => rfl
    | m + 1 =>
      by_cases hlo : n < 128
      · rw [enc_lo hlo] at hm; simp at hm
      · obtain ⟨h9, hb⟩ := num_step hi hn hlo
        rw [enc_hi hlo] at hm ⊢
        have hc : (UInt8.ofNat (n % 128 + 128)).toNat = n % 128 + 128 := ofNat_lo (by omega)
        have hA : ¬ (i = 9 ∧ 1 < (UInt8.ofNat (n % 128 + 128)).toNat) := by omega
        rw [List.take_succ_cons, numM_C hA (by rw [hc]; omega), ih (n / 128) (by omega) (i + 1) _ m (by omega) hb (.inr (by omega)) (by simpa using hm)]
theorem openM_cut {x rest : List UInt8} {m : Nat} (h : x.length ≤ 4096) (hm : m < (seal_ x).length) : openM ((seal_ x ++ rest).take m) = ([], 0, 3) := by
  rw [List.take_append_of_le_length (by omega)]
  have e : seal_ x = enc x.length ++ (x ++ sum4 (crc x)) := by simp [seal_]
  by_cases hk : m < (enc x.length).length
  · have hn : numM ((seal_ x).take m) 0 0 = (m, 3, 0) := by
      rw [e, List.take_append_of_le_length (by omega)]
      exact numM_cut _ 0 0 m (by omega) (by show _ < 2 ^ 64; omega) (.inl rfl) hk
    exact openM_num hn (by decide)
  · have hs : (seal_ x).take m = enc x.length ++ (x ++ sum4 (crc x)).take (m - (enc x.length).length) := by
      rw [e, List.take_append, List.take_of_length_le (by omega)]
    have hn : numM ((seal_ x).take m) 0 0 = ((enc x.length).length, 0, x.length) := by rw [hs]; exact numM_enc0 (by omega) _
    exact openM_short hn h (by rw [List.length_take]; rw [seal_length] at hm ⊢; omega)
theorem framesM_cut : ∀ (ls : List (List UInt8)) (w at_ g : Nat), (∀ x ∈ ls, x.length ≤ 4096) → w ≤ ls.length → (cat (ls.take w)).length ≤ at_ → (w < ls.length → at_ < (cat (ls.take (w + 1))).length) → at_ ≤ (cat ls).length → at_ < g →
    framesM g ((cat ls).take at_) = (ls.take w, (cat (ls.take w)).length, if at_ = (cat (ls.take w)).length then 0 else 3)
  | [], w, at_, g, _, hw, h1, h2, h3, hg => by
    obtain ⟨g, rfl⟩ : ∃ g', g = g' + 1 := ⟨g - 1, by omega⟩
    have : at_ = 0 := by simpa [cat] using h3
    subst this
    simp [framesM, cat]
  | x :: t, 0, at_, g, hx, hw, h1, h2, h3, hg => by
    obtain ⟨g, rfl⟩ : ∃ g', g = g' + 1 := ⟨g - 1, by omega⟩
    have hlt : at_ < (seal_ x).length := by have := h2 (by simp); simpa [cat] using this
    rw [framesM]
    by_cases h0 : at_ = 0
    · subst h0; simp [cat]
    · have hne : ¬ (cat (x :: t)).take at_ = [] := by
        intro e
        have := congrArg List.length e
        rw [List.length_take, cat_cons, List.length_append] at this
        simp only [List.length_nil] at this
        omega
      have ho : openM ((cat (x :: t)).take at_) = ([], 0, 3) := by rw [cat_cons]; exact openM_cut (hx x (by simp)) hlt
      rw [if_neg hne, ho, if_pos (by decide)]
      simp [cat, h0]
  | x :: t, w + 1, at_, g, hx, hw, h1, h2, h3, hg => by
    obtain ⟨g, rfl⟩ : ∃ g', g = g' + 1 := ⟨g - 1, by omega⟩
    rw [List.take_succ_cons, cat_cons, List.length_append] at h1
    rw [cat_cons, List.length_append] at h3
    have hl5 : 4 ≤ (seal_ x).length := by rw [seal_length]; omega
    obtain ⟨q, rfl⟩ : ∃ q, at_ = (seal_ x).length + q := ⟨at_ - (seal_ x).length, by omega⟩
    have e : (cat (x :: t)).take ((seal_ x).length + q) = seal_ x ++ (cat t).take q := by
      rw [cat_cons, List.take_append, List.take_of_length_le (by omega)]
      congr 2; omega
    have hne : ¬ seal_ x ++ (cat t).take q = [] := by
      intro e
      have := congrArg List.length e
      rw [List.length_append] at this
      simp only [List.length_nil] at this
      omega
    rw [e, framesM, if_neg hne, openM_seal (hx x (by simp)), if_neg (by simp)]
    have ih := framesM_cut t w q g (fun y hy => hx y (by simp [hy])) (by simpa using hw) (by omega) (fun hw' => by
      have := h2 (by simpa using hw')
      rw [List.take_succ_cons, cat_cons, List.length_append] at this
      omega) (by omega) (by omega)
    simp only [List.drop_left]
    rw [ih, List.take_succ_cons, cat_cons, List.length_append]
    simp only [Prod.mk.injEq, true_and]
    by_cases hq : q = (cat (t.take w)).length
    · rw [if_pos hq, if_pos (by omega)]
    · rw [if_neg hq, if_neg (by omega)]
/-- where the frames end -/
def offs (ls : List (List UInt8)) : List Nat := (List.range (ls.length + 1)).map fun k => (cat (ls.take k)).length
theorem offs_len (ls : List (List UInt8)) : (offs ls).length = ls.length + 1 := by simp [offs]
theorem offs_get {ls : List (List UInt8)} {k : Nat} (h : k ≤ ls.length) : (offs ls)[k]? = some (cat (ls.take k)).length := by
  rw [offs, List.getElem?_map, List.getElem?_range (by omega)]; rfl
theorem offs_snoc (ls : List (List UInt8)) (x : List UInt8) : offs (ls ++ [x]) = offs ls ++ [(cat (ls ++ [x])).length] := by
  rw [offs, offs]
  simp only [List.length_append, List.length_cons, List.length_nil]
  rw [List.range_succ (n := ls.length + (0 + 1)), List.map_append]
  congr 1
  · refine List.map_congr_left fun k hk => ?_
    rw [List.take_append_of_le_length (by simp at hk; omega)]
  · simp only [List.map_cons, List.map_nil, Nat.zero_add]
    rw [List.take_of_length_le (by simp)]
theorem cat_take_le {ls : List (List UInt8)} {k : Nat} : (cat (ls.take k)).length ≤ (cat ls).length := by
  have h : cat ls = cat (ls.take k) ++ cat (ls.drop k) := by
    simp only [cat]
    rw [← List.flatten_append, ← List.map_append, List.take_append_drop]
  rw [h, List.length_append]; omega
theorem cat_small : ∀ {ls : List (List UInt8)}, (∀ x ∈ ls, x.length ≤ 4096) → (cat ls).length ≤ 4110 * ls.length
  | [], _ => by simp [cat]
  | x :: t, h => by
    have h1 := cat_small (ls := t) (fun y hy => h y (by simp [hy]))
    have h2 := h x (by simp)
    have h3 : (enc x.length).length ≤ 10 := enc_len_le (by omega)
    rw [cat_cons, List.length_append, seal_length, List.length_cons]
    omega
end Go.Proofs.Ytajaloaknfbobaa
