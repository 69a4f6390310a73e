/- NetKeeps: what holds of a net behind any acts, as plain data. No program in sight. -/
import Derived.Test.YtajconlnacbmjaaModel
set_option linter.unusedVariables false
set_option linter.unusedSimpArgs false
namespace Go.Gx.Net
open Go.Gx Go.RowKit
def core (p : Pk) : Int × Int × Int × ByteArray := (p.id, p.src, p.dst, p.body)
def St.cs (s : St) : List (Int × Int × Int × ByteArray) := s.fl.map core
structure KI (s : St) (seen : List Int) (born gone : Int) (k : Nat) : Prop where
  ok : s.ok
  cnt : born = gone + s.cs.length
  bk : born ≤ k
  g0 : 0 ≤ gone
  hl : s.hd.length ≤ k
  last0 : 0 ≤ s.last
  last1 : s.last ≤ k
  sl : seen.length ≤ k
  ids : ∀ c ∈ s.cs, c.1 ≤ s.last
  nd : s.cs.Pairwise fun a b => a.1 ≠ b.1
  seen : ∀ x ∈ seen, x ≤ s.last ∧ ∀ c ∈ s.cs, c.1 ≠ x
  heard : ∀ c ∈ s.cs, ∃ h ∈ s.hd, (h.src, h.dst, h.body) = c.2
theorem cs_length (s : St) : s.cs.length = s.fl.length := by simp [St.cs]
theorem KI.fl {s : St} {seen : List Int} {b g : Int} {k : Nat} (h : KI s seen b g k) : (s.fl.length : Int) = b - g ∧ s.fl.length ≤ k := by
  have h1 := h.cnt; have h2 := h.bk; have h3 := h.g0
  rw [cs_length] at h1
  omega
theorem KI.zero : KI St.zero [] 0 0 0 := ⟨(by intro p hp; simp [St.zero] at hp), rfl, (by decide), (by decide), (by decide), (by decide), (by decide), (by decide), (by intro c hc; simp [St.cs, St.zero] at hc), (by simp [St.cs, St.zero]), (by simp), (by intro c hc; simp [St.cs, St.zero] at hc)⟩
theorem KI.mono {s : St} {seen : List Int} {b g : Int} {k : Nat} (h : KI s seen b g k) : KI s seen b g (k + 1) :=
  ⟨h.ok, h.cnt, (by have := h.bk; omega), h.g0, (by have := h.hl; omega), h.last0, (by have := h.last1; omega), (by have := h.sl; omega), h.ids, h.nd, h.seen, h.heard⟩
theorem KI.perm {s s' : St} {seen : List Int} {b g : Int} {k : Nat} (h : KI s seen b g k) (hp : s'.cs.Perm s.cs) (hh : s'.hd = s.hd) (hl : s'.last = s.last) (ok : s'.ok) : KI s' seen b g (k + 1) := by
  have h := h.mono
  exact ⟨ok, (by rw [hp.length_eq]; exact h.cnt), h.bk, h.g0, (by rw [hh]; exact h.hl), (by rw [hl]; exact h.last0), (by rw [hl]; exact h.last1), h.sl, (fun c hc => by rw [hl]; exact h.ids c (hp.mem_iff.1 hc)),
    (hp.pairwise_iff (fun a => a.symm)).2 h.nd, (fun x hx => ⟨by rw [hl]; exact (h.seen x hx).1, fun c hc => (h.seen x hx).2 c (hp.mem_iff.1 hc)⟩), (fun c hc => by rw [hh]; exact h.heard c (hp.mem_iff.1 hc))⟩
theorem KI.add {s s' : St} {seen : List Int} {b g : Int} {k : Nat} (h : KI s seen b g k) (r : Int × Int × ByteArray) (hc : s'.cs = s.cs ++ [(s.last + 1, r)]) (hl : s'.last = s.last + 1) (ok : s'.ok) (hs : ∀ x ∈ s.hd, x ∈ s'.hd) (hn : s'.hd.length ≤ s.hd.length + 1) (hr : ∃ x ∈ s'.hd, (x.src, x.dst, x.body) = r) :
    KI s' seen (b + 1) g (k + 1) := by
  refine ⟨ok, ?_, by have := h.bk; omega, h.g0, by have := h.hl; omega, by have := h.last0; omega, by have := h.last1; omega, by have := h.sl; omega, ?_, ?_, ?_, ?_⟩
  · rw [hc, List.length_append]; have := h.cnt; simp; omega
  · intro c hm
    rw [hc] at hm; rw [hl]
    rcases List.mem_append.1 hm with hm | hm
    · have := h.ids c hm; omega
    · rw [List.mem_singleton.1 hm]; exact Int.le_refl _
  · rw [hc, List.pairwise_append]
    refine ⟨h.nd, by simp, fun a ha c hm => ?_⟩
    rw [List.mem_singleton.1 hm]
    have := h.ids a ha
    show a.1 ≠ s.last + 1
    omega
  · intro x hx
    have h1 := h.seen x hx
    refine ⟨by rw [hl]; omega, fun c hm => ?_⟩
    rw [hc] at hm
    rcases List.mem_append.1 hm with hm | hm
    · exact h1.2 c hm
    · rw [List.mem_singleton.1 hm]; show s.last + 1 ≠ x; omega
  · intro c hm
    rw [hc] at hm
    rcases List.mem_append.1 hm with hm | hm
    · obtain ⟨y, hy, e⟩ := h.heard c hm; exact ⟨y, hs y hy, e⟩
    · rw [List.mem_singleton.1 hm]; exact hr
theorem KI.take {s s' : St} {seen : List Int} {b g : Int} {k : Nat} (h : KI s seen b g k) (c : Int × Int × Int × ByteArray) (hp : (c :: s'.cs).Perm s.cs) (hh : s'.hd = s.hd) (hl : s'.last = s.last) (ok : s'.ok) :
    KI s' (seen ++ [c.1]) b (g + 1) (k + 1) ∧ KI s' seen b (g + 1) (k + 1) ∧ (∃ x ∈ s.hd, (x.src, x.dst, x.body) = c.2) ∧ ∀ x ∈ seen, x ≠ c.1 := by
  have hm : c ∈ s.cs := hp.mem_iff.1 (by simp)
  have hsub : ∀ a ∈ s'.cs, a ∈ s.cs := fun a ha => hp.mem_iff.1 (by simp [ha])
  have hlen : s.cs.length = s'.cs.length + 1 := by rw [← hp.length_eq]; rfl
  have hnd : (c :: s'.cs).Pairwise fun a b => a.1 ≠ b.1 := (hp.pairwise_iff (fun a => a.symm)).2 h.nd
  rw [List.pairwise_cons] at hnd
  have k2 : KI s' seen b (g + 1) (k + 1) := ⟨ok, (by have := h.cnt; omega), (by have := h.bk; omega), (by have := h.g0; omega), (by rw [hh]; have := h.hl; omega), (by rw [hl]; exact h.last0), (by rw [hl]; have := h.last1; omega), (by have := h.sl; omega), (fun a ha => by rw [hl]; exact h.ids a (hsub a ha)),
    hnd.2, (fun x hx => ⟨by rw [hl]; exact (h.seen x hx).1, fun a ha => (h.seen x hx).2 a (hsub a ha)⟩), (fun a ha => by rw [hh]; exact h.heard a (hsub a ha))⟩
  refine ⟨⟨k2.ok, k2.cnt, k2.bk, k2.g0, k2.hl, k2.last0, k2.last1, by have := h.sl; simp; omega, k2.ids, k2.nd, ?_, k2.heard⟩, k2, h.heard c hm, fun x hx => fun e => (h.seen x hx).2 c hm e.symm⟩
  intro x hx
  rcases List.mem_append.1 hx with hx | hx
  · exact k2.seen x hx
  · rw [List.mem_singleton.1 hx]
    exact ⟨by rw [hl]; exact h.ids c hm, fun a ha => fun e => hnd.1 a ha e.symm⟩
theorem inc_small {x : Int} (h0 : 0 ≤ x) (h1 : x ≤ 1000000) : inc x = x + 1 := by
  unfold inc wrap64; omega
theorem pk_mem {s : St} {i : Int} (h : placeB s i = true) : s.pk i ∈ s.fl ∧ s.fl[i.toNat]? = some (s.pk i) ∧ i.toNat < s.fl.length := by
  simp only [placeB, Bool.and_eq_true, decide_eq_true_eq] at h
  have hlt : i.toNat < s.fl.length := by omega
  have e : s.fl[i.toNat]? = some (s.pk i) := by
    unfold St.pk
    rw [List.getD_eq_getElem?_getD, List.getElem?_eq_getElem hlt]; rfl
  exact ⟨List.mem_of_getElem? e, e, hlt⟩
theorem erase_perm {l : List Pk} {k : Nat} {p : Pk} (h : l[k]? = some p) : (p :: l.eraseIdx k).Perm l := by
  obtain ⟨hlt, rfl⟩ := List.getElem?_eq_some_iff.1 h
  rw [List.eraseIdx_eq_take_drop_succ]
  have e : l = l.take k ++ l[k] :: l.drop (k + 1) := by
    conv => lhs; rw [← List.take_append_drop k l, List.drop_eq_getElem_cons hlt]
  conv => rhs; rw [e]
  exact List.perm_middle.symm
theorem out_perm {s : St} {i : Int} (h : placeB s i = true) : (core (s.pk i) :: (s.out i).cs).Perm s.cs := by
  obtain ⟨_, h2, h3⟩ := pk_mem h
  exact (erase_perm h2).map core
theorem out_ok {s : St} (hk : s.ok) (i : Int) : (s.out i).ok := fun p hp => hk p (List.mem_of_mem_eraseIdx hp)
theorem KI.send0 {s s' : St} {seen : List Int} {b g : Int} {k : Nat} {x y : Int} {t : ByteArray} {z : Int} (h : KI s seen b g k) (hk : k ≤ 1000) (hs : s.send x y t = (s', z, 0)) : KI s' seen (b + 1) g (k + 1) := by
  unfold St.send at hs
  split at hs
  · simp at hs
  · split at hs
    · simp at hs
    · split at hs
      · simp at hs
      · rename_i h1 _ _
        simp only [Prod.mk.injEq, and_true] at hs
        obtain ⟨rfl, _⟩ := hs
        have hi : inc s.last = s.last + 1 := inc_small h.last0 (by have := h.last1; omega)
        refine h.add (x, y, t) ?_ hi ?_ (fun z hz => List.mem_append_left _ hz) (by simp [St.sendOk]) ⟨⟨inc s.last, x, y, t, 0⟩, List.mem_append_right _ (by simp), rfl⟩
        · show (s.fl ++ [_]).map core = _
          rw [List.map_append, ← hi]; rfl
        · intro p hp
          rcases List.mem_append.1 hp with hp | hp
          · exact h.ok p hp
          · rw [List.mem_singleton.1 hp]; exact ⟨by simpa using h1, by show (0:Int) ≤ 0; decide, by show (0:Int) ≤ 1000; decide⟩
theorem KI.double0 {s s' : St} {seen : List Int} {b g : Int} {k : Nat} {i z : Int} (h : KI s seen b g k) (hk : k ≤ 1000) (hs : s.double i = (s', z, 0)) : KI s' seen (b + 1) g (k + 1) := by
  unfold St.double at hs
  split at hs
  · simp at hs
  · split at hs
    · simp at hs
    · rename_i h1 _
      simp only [Prod.mk.injEq, and_true] at hs
      obtain ⟨rfl, _⟩ := hs
      have h1 : placeB s i = true := by simpa using h1
      have hm := (pk_mem h1).1
      have hi : inc s.last = s.last + 1 := inc_small h.last0 (by have := h.last1; omega)
      refine h.add ((s.pk i).src, (s.pk i).dst, (s.pk i).body) ?_ hi ?_ (fun z hz => hz) (by simp [St.fly]) ?_
      · show (s.fl ++ [_]).map core = _
        rw [List.map_append, ← hi]; rfl
      · intro p hp
        rcases List.mem_append.1 hp with hp | hp
        · exact h.ok p hp
        · rw [List.mem_singleton.1 hp]; exact ⟨(h.ok _ hm).1, by show (0:Int) ≤ 0; decide, by show (0:Int) ≤ 1000; decide⟩
      · obtain ⟨y, hy, e⟩ := h.heard (core (s.pk i)) (List.mem_map.2 ⟨_, hm, rfl⟩)
        exact ⟨y, hy, e⟩
theorem double_ne {s s' : St} {i x y : Int} (hs : s.double i = (s', x, y)) (hy : ¬ y = 0) : s' = s := by
  unfold St.double at hs
  repeat' split at hs
  all_goals simp only [Prod.mk.injEq] at hs
  all_goals first | exact hs.1.symm | (exfalso; exact hy hs.2.2.symm)
theorem KI.drop0 {s s' : St} {seen : List Int} {b g : Int} {k : Nat} {i : Int} (h : KI s seen b g k) (hs : s.drop i = (s', 0)) : KI s' seen b (g + 1) (k + 1) := by
  unfold St.drop at hs
  split at hs
  · simp at hs
  · rename_i h1
    simp only [Prod.mk.injEq, and_true] at hs
    subst hs
    exact (h.take _ (out_perm (by simpa using h1)) rfl rfl (out_ok h.ok i)).2.1
theorem drop_ne {s s' : St} {i y : Int} (hs : s.drop i = (s', y)) (hy : ¬ y = 0) : s' = s := by
  unfold St.drop at hs
  repeat' split at hs
  all_goals simp only [Prod.mk.injEq] at hs
  all_goals first | exact hs.1.symm | (exfalso; exact hy hs.2.symm)
theorem ready_place {s : St} {i : Int} (h : s.ready i = 0) : placeB s i = true := by
  unfold St.ready at h
  cases hp : placeB s i with
  | true => rfl
  | false => rw [hp] at h; simp at h
theorem KI.del0 {s s' : St} {seen : List Int} {b g : Int} {k : Nat} {i : Int} {q : Pk} (h : KI s seen b g k) (hs : s.deliver i = (s', q, 0)) :
    KI s' (seen ++ [q.id]) b (g + 1) (k + 1) ∧ (∃ (j : Nat) (x : Pk), s.hd[j]? = some x ∧ x.src = q.src ∧ x.dst = q.dst ∧ x.body = q.body) ∧ (∀ x ∈ seen, ¬ x = q.id) ∧ s'.hd = s.hd := by
  unfold St.deliver at hs
  split at hs
  · rename_i h1
    simp only [Prod.mk.injEq] at hs
    exact absurd hs.2.2 h1
  · rename_i h1
    simp only [Prod.mk.injEq, and_true] at hs
    obtain ⟨rfl, rfl⟩ := hs
    have hp := ready_place (by simpa using h1)
    obtain ⟨k1, _, ⟨x, hx, e⟩, hn⟩ := h.take (s' := { s.out i with came := upd s.came (at2 (s.pk i).src (s.pk i).dst) (inc (s.came (at2 (s.pk i).src (s.pk i).dst))) }) _ (out_perm hp) rfl rfl (out_ok h.ok i)
    obtain ⟨j, hj⟩ := List.getElem?_of_mem hx
    have e : (x.src, x.dst, x.body) = ((s.pk i).src, (s.pk i).dst, (s.pk i).body) := e
    simp only [Prod.mk.injEq] at e
    exact ⟨k1, ⟨j, x, hj, e⟩, hn, rfl⟩
theorem deliver_ne {s s' : St} {i y : Int} {q : Pk} (hs : s.deliver i = (s', q, y)) (hy : ¬ y = 0) : s' = s := by
  unfold St.deliver at hs
  repeat' split at hs
  all_goals simp only [Prod.mk.injEq] at hs
  all_goals first | exact hs.1.symm | (exfalso; exact hy hs.2.2.symm)
theorem KI.move {s s' : St} {seen : List Int} {b g : Int} {k : Nat} {i j y : Int} (h : KI s seen b g k) (hs : s.move i j = (s', y)) : KI s' seen b g (k + 1) := by
  unfold St.move at hs
  split at hs
  · simp only [Prod.mk.injEq] at hs
    rw [← hs.1]; exact h.mono
  · rename_i h1
    simp only [Prod.mk.injEq] at hs
    obtain ⟨rfl, _⟩ := hs
    have h1 : placeB s i = true ∧ placeB s j = true := by
      constructor
      · cases hp : placeB s i <;> simp_all
      · cases hp : placeB s j <;> simp_all
    have hj := (pk_mem h1.2).2.2
    have hi := (pk_mem h1.1).2.2
    have hpm : ((s.fl.eraseIdx i.toNat).insertIdx j.toNat (s.pk i)).Perm (s.pk i :: s.fl.eraseIdx i.toNat) := List.perm_insertIdx _ _ (by rw [List.length_eraseIdx_of_lt hi]; omega)
    refine h.perm ?_ rfl rfl ?_
    · exact ((hpm.map core).trans (out_perm h1.1))
    · intro p hp
      have := hpm.mem_iff.1 hp
      rcases List.mem_cons.1 this with rfl | hp
      · exact h.ok _ (pk_mem h1.1).1
      · exact h.ok p (List.mem_of_mem_eraseIdx hp)
theorem KI.hold {s s' : St} {seen : List Int} {b g : Int} {k : Nat} {i n y : Int} (h : KI s seen b g k) (hs : s.hold i n = (s', y)) : KI s' seen b g (k + 1) := by
  unfold St.hold at hs
  split at hs
  · simp only [Prod.mk.injEq] at hs
    rw [← hs.1]; exact h.mono
  · split at hs
    · simp only [Prod.mk.injEq] at hs
      rw [← hs.1]; exact h.mono
    · rename_i h1 h2
      simp only [Prod.mk.injEq] at hs
      obtain ⟨rfl, _⟩ := hs
      have h1 : placeB s i = true := by simpa using h1
      obtain ⟨hm, he, hlt⟩ := pk_mem h1
      refine h.perm ?_ rfl rfl ?_
      · show ((s.fl.set i.toNat _).map core).Perm _
        rw [List.map_set]
        have : (s.fl.map core).set i.toNat (core { s.pk i with held := n }) = s.fl.map core := by
          apply List.ext_getElem?
          intro j
          rw [List.getElem?_set]
          split
          · rename_i hij
            subst hij
            simp only [List.length_map, hlt, if_true, List.getElem?_map, he]
            rfl
          · rfl
        rw [this]
        exact List.Perm.refl _
      · intro p hp
        rcases List.mem_or_eq_of_mem_set hp with hp | rfl
        · exact h.ok p hp
        · exact ⟨(h.ok _ hm).1, by show 0 ≤ n; omega, by show n ≤ 1000; omega⟩
theorem KI.tick {s : St} {seen : List Int} {b g : Int} {k : Nat} (h : KI s seen b g k) : KI s.tick seen b g (k + 1) := by
  refine h.perm ?_ rfl rfl ?_
  · show ((s.fl.map _).map core).Perm _
    rw [List.map_map]
    exact List.Perm.refl _
  · intro p hp
    obtain ⟨q, hq, rfl⟩ := List.mem_map.1 hp
    have := h.ok q hq
    refine ⟨this.1, ?_, ?_⟩
    · show 0 ≤ max (q.held - 1) 0; omega
    · show max (q.held - 1) 0 ≤ 1000; omega
theorem KI.cutS {s s' : St} {seen : List Int} {b g : Int} {k : Nat} {i j y : Int} {c : Bool} (h : KI s seen b g k) (hs : s.cutS i j c = (s', y)) : KI s' seen b g (k + 1) := by
  unfold St.cutS at hs
  split at hs <;> simp only [Prod.mk.injEq] at hs <;> obtain ⟨rfl, _⟩ := hs
  · exact h.mono
  · exact h.perm (List.Perm.refl _) rfl rfl h.ok
end Go.Gx.Net
