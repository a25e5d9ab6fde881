/- Texts of atoms and assertions, and what reading them gives: plain lists of bytes. No conditions. -/
import Derived.Test.YtinnopkeoohgeaaDoorPlainText
import Derived.Test.YtinnopkeoohgeaaDoorPlainAsr
namespace Go.Proofs.YtinnopkeoohgeaaDoor.Pl
open Go.Lib

/-! ### Atoms -/
def sx (k : Int) : Txt := if k = 2 then [126] else [62]
def txX (x : Atm) : Txt := nm x.a ++ sx x.k ++ nm x.b
def noX : Atm := ⟨0, 0, 0⟩
def pX2 (k : Int) (l r : Txt) : Atm × Bool := if (pT l).2 && (pT r).2 then (⟨k, (pT l).1, (pT r).1⟩, true) else (noX, false)
/-- As the program reads an atom. -/
def pX (s : Txt) : Atm × Bool :=
  if (cut s [62]).2.2 then pX2 1 (cut s [62]).1 (cut s [62]).2.1
  else if (cut s [126]).2.2 then pX2 2 (cut s [126]).1 (cut s [126]).2.1 else (noX, false)
theorem pX_fin : ∀ (k : Bool) (a b : Fin 9), pX (nmN a.val ++ sx (if k then 2 else 1) ++ nmN b.val) = (⟨if k then 2 else 1, (a.val : Int), (b.val : Int)⟩, true) := by decide +kernel
theorem pX_txX {x : Atm} (h : av x = true) : pX (txX x) = (x, true) := by
  obtain ⟨k, a, b⟩ := x
  obtain ⟨hk, ha, hb⟩ := (av_iff _).1 h
  obtain ⟨n, rfl, hn⟩ := tm_of ha
  obtain ⟨m, rfl, hm⟩ := tm_of hb
  show pX (nm (n : Int) ++ sx k ++ nm (m : Int)) = _
  rw [nm_nat hn, nm_nat hm]
  rcases hk with rfl | rfl
  · exact pX_fin false ⟨n, by omega⟩ ⟨m, by omega⟩
  · exact pX_fin true ⟨n, by omega⟩ ⟨m, by omega⟩
theorem pX2_sound {k : Int} {l r : Txt} {x : Atm} (hk : k = 1 ∨ k = 2) (h : pX2 k l r = (x, true)) : x.k = k ∧ av x = true ∧ nm x.a = l ∧ nm x.b = r := by
  unfold pX2 at h
  split at h
  · rename_i hc
    rw [Bool.and_eq_true] at hc
    obtain ⟨h1, h2⟩ := pT_sound (show pT l = ((pT l).1, true) from Prod.ext rfl hc.1)
    obtain ⟨h3, h4⟩ := pT_sound (show pT r = ((pT r).1, true) from Prod.ext rfl hc.2)
    simp only [Prod.mk.injEq, and_true] at h
    subst h
    exact ⟨rfl, (av_iff _).2 ⟨hk, h1, h3⟩, h2, h4⟩
  · simp at h
theorem pX_sound {s : Txt} {x : Atm} (h : pX s = (x, true)) : av x = true ∧ txX x = s := by
  unfold pX at h
  split at h
  · rename_i hc
    obtain ⟨he, hv, ha, hb⟩ := pX2_sound (.inl rfl) h
    have hs := cut_found (show cut s [62] = ((cut s [62]).1, (cut s [62]).2.1, true) from Prod.ext rfl (Prod.ext rfl hc))
    refine ⟨hv, ?_⟩
    unfold txX
    rw [ha, hb, he]
    conv => rhs; rw [hs]
    simp [sx]
  · split at h
    · rename_i hc
      obtain ⟨he, hv, ha, hb⟩ := pX2_sound (.inr rfl) h
      have hs := cut_found (show cut s [126] = ((cut s [126]).1, (cut s [126]).2.1, true) from Prod.ext rfl (Prod.ext rfl hc))
      refine ⟨hv, ?_⟩
      unfold txX
      rw [ha, hb, he]
      conv => rhs; rw [hs]
      simp [sx]
    · simp at h
theorem pX_no {s : Txt} (h : (pX s).2 = false) : pX s = (noX, false) := by
  unfold pX at h ⊢
  have aux : ∀ k l r, (pX2 k l r).2 = false → pX2 k l r = (noX, false) := by
    intro k l r h
    unfold pX2 at h ⊢
    split
    · rename_i h2; rw [if_pos h2] at h; cases h
    · rfl
  split
  · rename_i hc; rw [if_pos hc] at h; exact aux _ _ _ h
  · rename_i hc
    rw [if_neg hc] at h
    split
    · rename_i hd; rw [if_pos hd] at h; exact aux _ _ _ h
    · rfl
theorem sx_len (k : Int) : (sx k).length = 1 := by unfold sx; split <;> rfl
theorem txX_len (x : Atm) : (txX x).length ≤ 7 := by
  unfold txX
  have := nm_len x.a
  have := nm_len x.b
  have := sx_len x.k
  simp only [List.length_append]; omega
theorem txX_inj {x y : Atm} (hx : av x = true) (hy : av y = true) (h : txX x = txX y) : x = y := by
  have h1 := pX_txX hx
  rw [h, pX_txX hy] at h1
  exact (congrArg Prod.fst h1).symm
theorem txX_mem {x : Atm} {c : UInt8} (h : c ∈ txX x) : 97 ≤ c ∨ c = 62 := by
  unfold txX at h
  rw [List.mem_append, List.mem_append] at h
  rcases h with (h | h) | h
  · exact .inl (nm_low h)
  · unfold sx at h
    split at h
    · rw [List.mem_singleton.1 h]; exact .inl (by decide)
    · rw [List.mem_singleton.1 h]; exact .inr rfl
  · exact .inl (nm_low h)
theorem txX_ne (x : Atm) : txX x ≠ [] := by
  unfold txX sx; split <;> simp

/-! ### Assertions -/
def tTrue : Txt := [116, 114, 117, 101]
def tEmp : Txt := [101, 109, 112]
def sepF : Txt := [32, 38, 32]
def sepX : Txt := [32, 42, 32]
def sepB : Txt := [32, 124, 32]
def fTx (l : List Fct) : Txt := if l = [] then tTrue else Go.Lib.join (l.map txF) sepF
def aTx (l : List Atm) : Txt := if l = [] then tEmp else Go.Lib.join (l.map txX) sepX
def txA (a : Asr) : Txt := fTx a.f ++ sepB ++ aTx a.a
def fmtA (a : Asr) : Txt := if asv a then txA a else []
theorem txA_ne (a : Asr) : txA a ≠ [] := by unfold txA sepB; simp
theorem mem_joinTail {sep : Txt} {c : UInt8} {ps : List Txt} (h : c ∈ joinTail sep ps) : c ∈ sep ∨ ∃ p ∈ ps, c ∈ p := by
  unfold joinTail at h
  obtain ⟨q, hq, hc⟩ := List.mem_flatten.1 h
  obtain ⟨p, hp, rfl⟩ := List.mem_map.1 hq
  rcases List.mem_append.1 hc with h | h
  · exact .inl h
  · exact .inr ⟨p, hp, h⟩
theorem mem_join {sep : Txt} {c : UInt8} {ps : List Txt} (h : c ∈ Go.Lib.join ps sep) : c ∈ sep ∨ ∃ p ∈ ps, c ∈ p := by
  cases ps with
  | nil => rw [Go.Lib.join_nil] at h; cases h
  | cons p l =>
    rw [join_cons] at h
    rcases List.mem_append.1 h with h | h
    · exact .inr ⟨p, by simp, h⟩
    · rcases mem_joinTail h with h | ⟨q, hq, h⟩
      · exact .inl h
      · exact .inr ⟨q, List.mem_cons_of_mem _ hq, h⟩
theorem fTx_no {l : List Fct} : (124 : UInt8) ∉ fTx l := by
  intro h
  unfold fTx at h
  split at h
  · revert h; decide
  · rcases mem_join h with h | ⟨p, hp, h⟩
    · revert h; decide
    · obtain ⟨f, _, rfl⟩ := List.mem_map.1 hp
      unfold txF at h
      rw [List.mem_append, List.mem_append] at h
      rcases h with (h | h) | h
      · exact nm_not (by decide) h
      · cases he : f.e <;> rw [he] at h <;> revert h <;> decide
      · exact nm_not (by decide) h
where
  nm_not {t : Int} {c : UInt8} (hc : c = 124) (h : c ∈ nm t) : False := by
    subst hc
    unfold nm at h
    split at h
    · rename_i ht
      have := (tmB_iff t).1 ht
      exact (show ∀ a : Fin 9, (124 : UInt8) ∉ nmN a.val by decide) ⟨t.toNat, by omega⟩ h
    · cases h

/-- As the program reads the facts of a text, and its atoms. -/
def pFs : List Txt → List Fct → Option (List Fct)
  | [], acc => some acc
  | p :: ps, acc => if (pF p).2 && !decide (acc.length = 12) then pFs ps (acc ++ [(pF p).1]) else none
def pXs : List Txt → List Atm → Option (List Atm)
  | [], acc => some acc
  | p :: ps, acc => if (pX p).2 && !decide (acc.length = 6) then pXs ps (acc ++ [(pX p).1]) else none
def pFt (s : Txt) : Option (List Fct) := if s = tTrue then some [] else pFs (split s sepF) []
def pXt (s : Txt) : Option (List Atm) := if s = tEmp then some [] else pXs (split s sepX) []
def pA2 (l r : Txt) : Asr × Bool := match pFt l with
  | none => (noA, false)
  | some f => match pXt r with
    | none => (noA, false)
    | some a => (⟨f, a⟩, true)
def pA (s : Txt) : Asr × Bool := if (cut s sepB).2.2 then pA2 (cut s sepB).1 (cut s sepB).2.1 else (noA, false)
theorem pFs_sound : ∀ {ps : List Txt} {acc l : List Fct}, pFs ps acc = some l → acc.length ≤ 12 → ∃ m, l = acc ++ m ∧ m.map txF = ps ∧ (∀ f ∈ m, fv f = true) ∧ l.length ≤ 12
  | [], acc, l, h, ha => by unfold pFs at h; injection h with h; subst h; exact ⟨[], by simp, rfl, by simp, ha⟩
  | p :: ps, acc, l, h, ha => by
    unfold pFs at h
    split at h
    · rename_i hc
      rw [Bool.and_eq_true, Bool.not_eq_true', decide_eq_false_iff_not] at hc
      obtain ⟨h1, h2⟩ := pF_sound (show pF p = ((pF p).1, true) from Prod.ext rfl hc.1)
      obtain ⟨m, k1, k2, k3, k4⟩ := pFs_sound h (by simp; omega)
      refine ⟨(pF p).1 :: m, by rw [k1]; simp, by rw [List.map_cons, h2, k2], ?_, k4⟩
      intro f hf
      rcases List.mem_cons.1 hf with rfl | hf
      · exact h1
      · exact k3 f hf
    · cases h
theorem pXs_sound : ∀ {ps : List Txt} {acc l : List Atm}, pXs ps acc = some l → acc.length ≤ 6 → ∃ m, l = acc ++ m ∧ m.map txX = ps ∧ (∀ f ∈ m, av f = true) ∧ l.length ≤ 6
  | [], acc, l, h, ha => by unfold pXs at h; injection h with h; subst h; exact ⟨[], by simp, rfl, by simp, ha⟩
  | p :: ps, acc, l, h, ha => by
    unfold pXs at h
    split at h
    · rename_i hc
      rw [Bool.and_eq_true, Bool.not_eq_true', decide_eq_false_iff_not] at hc
      obtain ⟨h1, h2⟩ := pX_sound (show pX p = ((pX p).1, true) from Prod.ext rfl hc.1)
      obtain ⟨m, k1, k2, k3, k4⟩ := pXs_sound h (by simp; omega)
      refine ⟨(pX p).1 :: m, by rw [k1]; simp, by rw [List.map_cons, h2, k2], ?_, k4⟩
      intro f hf
      rcases List.mem_cons.1 hf with rfl | hf
      · exact h1
      · exact k3 f hf
    · cases h
theorem pFs_map : ∀ {l acc : List Fct}, (∀ f ∈ l, fv f = true) → acc.length + l.length ≤ 12 → pFs (l.map txF) acc = some (acc ++ l)
  | [], acc, _, _ => by simp [pFs]
  | f :: l, acc, hv, hl => by
    rw [List.length_cons] at hl
    rw [List.map_cons]
    unfold pFs
    rw [pF_txF (hv f (by simp)), if_pos (by simp; omega), pFs_map (fun g hg => hv g (List.mem_cons_of_mem _ hg)) (by simp; omega)]
    simp
theorem pXs_map : ∀ {l acc : List Atm}, (∀ f ∈ l, av f = true) → acc.length + l.length ≤ 6 → pXs (l.map txX) acc = some (acc ++ l)
  | [], acc, _, _ => by simp [pXs]
  | f :: l, acc, hv, hl => by
    rw [List.length_cons] at hl
    rw [List.map_cons]
    unfold pXs
    rw [pX_txX (hv f (by simp)), if_pos (by simp; omega), pXs_map (fun g hg => hv g (List.mem_cons_of_mem _ hg)) (by simp; omega)]
    simp
theorem pFt_sound {s : Txt} {l : List Fct} (h : pFt s = some l) : fTx l = s ∧ (∀ f ∈ l, fv f = true) ∧ l.length ≤ 12 := by
  unfold pFt at h
  split at h
  · rename_i e; injection h with h; subst h; exact ⟨e.symm, by simp, by simp⟩
  · obtain ⟨m, k1, k2, k3, k4⟩ := pFs_sound h (by simp)
    simp only [List.nil_append] at k1
    subst k1
    refine ⟨?_, k3, k4⟩
    unfold fTx
    rw [if_neg (by rintro rfl; exact split_ne s sepF k2.symm), k2, join_split]
theorem pXt_sound {s : Txt} {l : List Atm} (h : pXt s = some l) : aTx l = s ∧ (∀ f ∈ l, av f = true) ∧ l.length ≤ 6 := by
  unfold pXt at h
  split at h
  · rename_i e; injection h with h; subst h; exact ⟨e.symm, by simp, by simp⟩
  · obtain ⟨m, k1, k2, k3, k4⟩ := pXs_sound h (by simp)
    simp only [List.nil_append] at k1
    subst k1
    refine ⟨?_, k3, k4⟩
    unfold aTx
    rw [if_neg (by rintro rfl; exact split_ne s sepX k2.symm), k2, join_split]
theorem lows {c : UInt8} (h : 97 ≤ c) : c ≠ 38 ∧ c ≠ 42 ∧ c ≠ 32 := by
  refine ⟨?_, ?_, ?_⟩ <;> (rintro rfl; revert h; decide)
theorem pFt_fTx {l : List Fct} (hv : ∀ f ∈ l, fv f = true) (hl : l.length ≤ 12) : pFt (fTx l) = some l := by
  unfold pFt fTx
  by_cases e : l = []
  · subst e; simp
  · rw [if_neg e]
    have hs : split (Go.Lib.join (l.map txF) sepF) sepF = l.map txF := split_of_join (c := 38) (j := 1) rfl (by intro i hi; obtain rfl : i = 0 := (by omega); decide) (by simpa using e) (by
      intro p hp h
      obtain ⟨f, _, rfl⟩ := List.mem_map.1 hp
      rcases txF_mem h with h | h | h
      · exact (lows h).1 rfl
      · revert h; decide
      · revert h; decide)
    have hne : Go.Lib.join (l.map txF) sepF ≠ tTrue := by
      intro h
      rw [h] at hs
      have h2 := (pF_sound (s := tTrue) (f := (l.head e)) (by
        cases l with
        | nil => exact absurd rfl e
        | cons f l =>
          have h3 : tTrue = txF f := by
            have := congrArg List.head? hs
            rw [show split tTrue sepF = [tTrue] from by decide] at this
            simpa using this
          rw [h3]; exact pF_txF (hv f (by simp)))).2
      have : (pF tTrue).2 = false := by decide
      rw [← h2, pF_txF (hv _ (List.head_mem e))] at this
      cases this
    rw [if_neg hne, hs, pFs_map hv (by simpa using hl)]
    simp
theorem pXt_aTx {l : List Atm} (hv : ∀ f ∈ l, av f = true) (hl : l.length ≤ 6) : pXt (aTx l) = some l := by
  unfold pXt aTx
  by_cases e : l = []
  · subst e; simp
  · rw [if_neg e]
    have hs : split (Go.Lib.join (l.map txX) sepX) sepX = l.map txX := split_of_join (c := 42) (j := 1) rfl (by intro i hi; obtain rfl : i = 0 := (by omega); decide) (by simpa using e) (by
      intro p hp h
      obtain ⟨f, _, rfl⟩ := List.mem_map.1 hp
      rcases txX_mem h with h | h
      · exact (lows h).2.1 rfl
      · revert h; decide)
    have hne : Go.Lib.join (l.map txX) sepX ≠ tEmp := by
      intro h
      rw [h] at hs
      cases l with
      | nil => exact absurd rfl e
      | cons f l =>
        have h3 : tEmp = txX f := by
          have := congrArg List.head? hs
          rw [show split tEmp sepX = [tEmp] from by decide] at this
          simpa using this
        have h4 : (pX tEmp).2 = false := by decide
        rw [h3, pX_txX (hv f (by simp))] at h4
        cases h4
    rw [if_neg hne, hs, pXs_map hv (by simpa using hl)]
    simp
theorem pA_txA {a : Asr} (h : asv a = true) : pA (txA a) = (a, true) := by
  obtain ⟨f, x⟩ := a
  obtain ⟨h1, h2, h3⟩ := (asv_iff _).1 h
  obtain ⟨h4, h5⟩ := (fsv_iff _).1 h1
  have hc : cut (txA ⟨f, x⟩) sepB = (fTx f, aTx x, true) := cut_sep (c := 124) (j := 1) fTx_no rfl (by intro i hi; obtain rfl : i = 0 := (by omega); decide)
  unfold pA
  rw [hc, if_pos rfl]
  unfold pA2
  rw [pFt_fTx h5 h4, pXt_aTx h3 h2]
theorem pA_sound {s : Txt} {a : Asr} (h : pA s = (a, true)) : asv a = true ∧ txA a = s := by
  unfold pA at h
  split at h
  · rename_i hc
    have hs := cut_found (show cut s sepB = ((cut s sepB).1, (cut s sepB).2.1, true) from Prod.ext rfl (Prod.ext rfl hc))
    unfold pA2 at h
    cases hf : pFt (cut s sepB).1 with
    | none => rw [hf] at h; simp at h
    | some f =>
      rw [hf] at h
      cases hx : pXt (cut s sepB).2.1 with
      | none => rw [hx] at h; simp at h
      | some x =>
        rw [hx] at h
        simp only [Prod.mk.injEq, and_true] at h
        subst h
        obtain ⟨k1, k2, k3⟩ := pFt_sound hf
        obtain ⟨j1, j2, j3⟩ := pXt_sound hx
        refine ⟨(asv_iff _).2 ⟨(fsv_iff _).2 ⟨k3, k2⟩, j3, j2⟩, ?_⟩
        unfold txA
        rw [k1, j1]; exact hs.symm
  · simp at h
theorem pA_no {s : Txt} (h : (pA s).2 = false) : pA s = (noA, false) := by
  unfold pA at h ⊢
  split
  · rename_i hc
    rw [if_pos hc] at h
    unfold pA2 at h ⊢
    cases hf : pFt (cut s sepB).1 with
    | none => rfl
    | some f =>
      rw [hf] at h
      cases hx : pXt (cut s sepB).2.1 with
      | none => rfl
      | some x => rw [hx] at h; cases h
  · rfl
theorem pA_is {s : Txt} {a : Asr} (h : asv a = true) (e : txA a = s) : pA s = (a, true) := by rw [← e]; exact pA_txA h
theorem pA_not {s : Txt} (h : ∀ a, asv a = true → txA a ≠ s) : pA s = (noA, false) := by
  refine pA_no ?_
  rw [Bool.eq_false_iff]
  intro e
  obtain ⟨h1, h2⟩ := pA_sound (show pA s = ((pA s).1, true) from Prod.ext rfl e)
  exact h _ h1 h2
theorem txA_inj {a b : Asr} (ha : asv a = true) (hb : asv b = true) (h : txA a = txA b) : a = b := by
  have h1 := pA_txA ha
  rw [h, pA_txA hb] at h1
  exact (congrArg Prod.fst h1).symm
theorem lens_le {n : Nat} : ∀ {ps : List Txt}, (∀ p ∈ ps, p.length ≤ n) → lens ps ≤ n * ps.length
  | [], _ => by simp [lens]
  | p :: ps, h => by
    have h1 := h p (by simp)
    have h2 := lens_le (n := n) (ps := ps) (fun q hq => h q (List.mem_cons_of_mem _ hq))
    simp only [lens, List.map_cons, List.sum_cons, List.length_cons] at h2 ⊢
    rw [Nat.mul_succ]; omega
theorem join_len {n m : Nat} {ps : List Txt} {sep : Txt} (h : ∀ p ∈ ps, p.length ≤ n) (hl : ps.length ≤ m) : (Go.Lib.join ps sep).length ≤ n * m + sep.length * m := by
  cases ps with
  | nil => rw [Go.Lib.join_nil]; simp
  | cons p l =>
    rw [join_cons, List.length_append, joinTail_length]
    have h1 := lens_le h
    simp only [lens, List.map_cons, List.sum_cons] at h1
    have h2 : n * (p :: l).length ≤ n * m := Nat.mul_le_mul_left _ hl
    have h3 : sep.length * l.length ≤ sep.length * m := Nat.mul_le_mul_left _ (by simp at hl; omega)
    simp only [lens] at *
    omega
theorem txA_len {a : Asr} (h : asv a = true) : (txA a).length ≤ 250 := by
  obtain ⟨h1, h2⟩ := asv_len h
  have k1 : (fTx a.f).length ≤ 132 := by
    unfold fTx
    split
    · decide
    · have := join_len (n := 8) (m := 12) (sep := sepF) (ps := a.f.map txF) (by intro p hp; obtain ⟨f, _, rfl⟩ := List.mem_map.1 hp; exact txF_len f) (by simpa using h1)
      exact this
  have k2 : (aTx a.a).length ≤ 60 := by
    unfold aTx
    split
    · decide
    · have := join_len (n := 7) (m := 6) (sep := sepX) (ps := a.a.map txX) (by intro p hp; obtain ⟨f, _, rfl⟩ := List.mem_map.1 hp; exact txX_len f) (by simpa using h2)
      exact this
  unfold txA
  simp only [List.length_append]
  have : sepB.length = 3 := rfl
  omega

end Go.Proofs.YtinnopkeoohgeaaDoor.Pl
