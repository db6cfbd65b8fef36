/-
  The engine, part B: what is known of a world (blocks that are held, facts on all others), of an activation's temporaries, and the rules of the code.
-/
import Derived.Test.YtaldphhdkmchhaaEngA
namespace Go.Proofs.Ytaldphhdkmchhaa
set_option linter.unusedSimpArgs false
set_option linter.unusedVariables false
open Go

/-! ### worlds -/
/-- But for the blocks of D the world w' holds what w held. -/
structure Keep (D : List Nat) (w w' : World) : Prop where
  os : w'.os = w.os
  tape : w'.tape = w.tape
  output : w'.output = w.output
  size : w.heap.size ≤ w'.heap.size
  block : ∀ b, b < w.heap.size → b ∉ D → w'.heap[b]? = w.heap[b]?

theorem Keep.refl (D : List Nat) (w : World) : Keep D w w := ⟨rfl, rfl, rfl, Nat.le_refl _, fun _ _ _ => rfl⟩
theorem Keep.trans {D : List Nat} {a b c : World} (h : Keep D a b) (k : Keep D b c) : Keep D a c :=
  ⟨k.os.trans h.os, k.tape.trans h.tape, k.output.trans h.output, Nat.le_trans h.size k.size,
   fun i hi hD => (k.block i (Nat.lt_of_lt_of_le hi h.size) hD).trans (h.block i hi hD)⟩
theorem Keep.mono {D D' : List Nat} {w w' : World} (h : Keep D w w') (hD : ∀ b, b < w.heap.size → b ∈ D → b ∈ D') : Keep D' w w' :=
  ⟨h.os, h.tape, h.output, h.size, fun b hb hn => h.block b hb fun hd => hn (hD b hb hd)⟩

abbrev Heap := List (Nat × Obj)
abbrev Facts := List (World → Prop)
def ids (H : Heap) : List Nat := H.map (·.1)
@[simp] theorem ids_nil : ids [] = [] := rfl
@[simp] theorem ids_cons (p : Nat × Obj) (H : Heap) : ids (p :: H) = p.1 :: ids H := rfl
@[simp] theorem ids_append (G H : Heap) : ids (G ++ H) = ids G ++ ids H := by simp [ids]
theorem mem_ids {p : Nat × Obj} {H : Heap} (h : p ∈ H) : p.1 ∈ ids H := List.mem_map.2 ⟨p, h, rfl⟩

/-- The blocks of H are held; each fact of R holds, whatever becomes of the blocks of H. -/
structure St (H : Heap) (R : Facts) (w : World) : Prop where
  nd : (ids H).Nodup
  held : ∀ p ∈ H, w.heap[p.1]? = some p.2
  fact : ∀ f ∈ R, ∀ w', Keep (ids H) w w' → f w'

theorem St.lt {H : Heap} {R : Facts} {w : World} (h : St H R w) {b : Nat} (hb : b ∈ ids H) : b < w.heap.size := by
  obtain ⟨p, hp, rfl⟩ := List.mem_map.1 hb
  have := h.held p hp
  exact (Array.getElem?_eq_some_iff.1 this).1

theorem St.now {H : Heap} {R : Facts} {w : World} (h : St H R w) {f : World → Prop} (hf : f ∈ R) : f w := h.fact f hf w (Keep.refl _ w)

theorem St.keep {H : Heap} {R : Facts} {w w' : World} (h : St H R w) (k : Keep [] w w') : St H R w' where
  nd := h.nd
  held p hp := (k.block p.1 (h.lt (mem_ids hp)) (by simp)).trans (h.held p hp)
  fact f hf w'' k' := h.fact f hf w'' ((k.mono (fun _ _ h => by cases h)).trans k')

theorem keep_drew (w : World) (n : Nat) : Keep [] w { w with drawn := n } := ⟨rfl, rfl, rfl, Nat.le_refl _, fun _ _ _ => rfl⟩
theorem St.drew {H : Heap} {R : Facts} {w : World} (h : St H R w) : St H R w.drew := h.keep (keep_drew w _)
theorem St.drawn {H : Heap} {R : Facts} {w : World} {n : Nat} (h : St H R w) : St H R { w with drawn := n } := h.keep (keep_drew w _)

theorem ids_perm {H H' : Heap} (p : H.Perm H') : (ids H).Perm (ids H') := List.Perm.map (fun q : Nat × Obj => q.1) p
theorem St.perm {H H' : Heap} {R : Facts} {w : World} (h : St H R w) (p : H.Perm H') : St H' R w where
  nd := (ids_perm p).nodup_iff.1 h.nd
  held q hq := h.held q (p.mem_iff.2 hq)
  fact f hf w' k := h.fact f hf w' (k.mono fun b _ hb => (ids_perm p).mem_iff.2 hb)

theorem St.drop {H G : Heap} {R : Facts} {w : World} (h : St (G ++ H) R w) : St H R w where
  nd := by have := h.nd; rw [ids_append] at this; exact (List.nodup_append.1 this).2.1
  held q hq := h.held q (by simp [hq])
  fact f hf w' k := h.fact f hf w' (k.mono fun b _ hb => by simp [hb])

theorem St.facts {H : Heap} {R R' : Facts} {w : World} (h : St H R w) (hR : ∀ f ∈ R', f ∈ R) : St H R' w := ⟨h.nd, h.held, fun f hf => h.fact f (hR f hf)⟩

/-- A fact that follows from facts. -/
theorem St.also {H : Heap} {R : Facts} {w : World} (h : St H R w) {f : World → Prop} (hf : ∀ w', (∀ g ∈ R, g w') → f w') : St H (f :: R) w :=
  ⟨h.nd, h.held, fun g hg w' k => by
    rcases List.mem_cons.1 hg with h1 | h1
    · subst h1; exact hf w' fun q hq => h.fact q hq w' k
    · exact h.fact g h1 w' k⟩

theorem keep_push (w : World) (o : Obj) : Keep [] w (w.alloc o) :=
  ⟨rfl, rfl, rfl, by show _ ≤ (w.heap.push o).size; simp, fun b hb _ => by show (w.heap.push o)[b]? = _; rw [Array.getElem?_push, if_neg (by omega)]⟩

/-- New blocks, at or beyond where the heap ended. -/
theorem St.more {H N : Heap} {R : Facts} {w w' : World} (h : St H R w) (k : Keep [] w w') (hn : (ids N).Nodup) (hb : ∀ b ∈ ids N, w.heap.size ≤ b)
    (hN : ∀ p ∈ N, w'.heap[p.1]? = some p.2) : St (N ++ H) R w' where
  nd := by
    rw [ids_append]
    refine List.nodup_append.2 ⟨hn, h.nd, fun a ha b hb' e => ?_⟩
    subst e
    have := hb a ha; have := h.lt hb'; omega
  held q hq := by
    rcases List.mem_append.1 hq with hq | hq
    · exact hN q hq
    · exact (h.keep k).held q hq
  fact f hf w'' k' := by
    refine h.fact f hf w'' ⟨k'.os.trans k.os, k'.tape.trans k.tape, k'.output.trans k.output, Nat.le_trans k.size k'.size, fun b hlt hD => ?_⟩
    rw [k'.block b (Nat.lt_of_lt_of_le hlt k.size) (by rw [ids_append]; intro hm; rcases List.mem_append.1 hm with hm | hm; (have := hb b hm; omega); exact hD hm)]
    exact k.block b hlt (by simp)

theorem St.alloc {H : Heap} {R : Facts} {w : World} (h : St H R w) (o : Obj) : St ((w.heap.size, o) :: H) R (w.alloc o) :=
  h.more (N := [(w.heap.size, o)]) (keep_push w o) (by simp) (by simp) (fun p hp => by
    obtain rfl := List.mem_singleton.1 hp
    show (w.heap.push o)[w.heap.size]? = _
    simp)

/-- A held block is turned. -/
theorem St.set {H : Heap} {R : Facts} {w : World} {b : Nat} {o o' : Obj} (h : St ((b, o) :: H) R w) : St ((b, o') :: H) R { w with heap := w.heap.setIfInBounds b o' } where
  nd := h.nd
  held q hq := by
    have hlt : b < w.heap.size := h.lt (b := b) (by simp)
    rcases List.mem_cons.1 hq with h1 | h1
    · subst h1; show (w.heap.setIfInBounds b o')[b]? = _; simp [hlt]
    · have hne : b ≠ q.1 := fun e => by
        have := h.nd
        rw [ids_cons, List.nodup_cons] at this
        exact this.1 (by dsimp only; rw [e]; exact mem_ids h1)
      show (w.heap.setIfInBounds b o')[q.1]? = _
      rw [Array.getElem?_setIfInBounds_ne hne]
      exact h.held q (by simp [h1])
  fact f hf w' k := by
    refine h.fact f hf w' ⟨k.os, k.tape, k.output, by simpa using k.size, fun c hc hD => ?_⟩
    have hne : b ≠ c := fun e => hD (by simp [e])
    have := k.block c (by simpa using hc) hD
    rw [this]; show (w.heap.setIfInBounds b o')[c]? = _
    rw [Array.getElem?_setIfInBounds_ne hne]

/-- A held block is let go: that it holds what it holds is a fact from now on. -/
theorem St.freeze {H : Heap} {R : Facts} {w : World} {b : Nat} {o : Obj} (h : St ((b, o) :: H) R w) : St H ((fun w => w.heap[b]? = some o) :: R) w where
  nd := by have := h.nd; rw [ids_cons, List.nodup_cons] at this; exact this.2
  held q hq := h.held q (by simp [hq])
  fact f hf w' k := by
    rcases List.mem_cons.1 hf with h1 | h1
    · subst h1
      have hn : b ∉ ids H := by have := h.nd; rw [ids_cons, List.nodup_cons] at this; exact this.1
      rw [k.block b (h.lt (b := b) (by simp)) hn]
      exact h.held (b, o) (by simp)
    · exact h.fact f h1 w' (k.mono fun c _ hc => by simp [hc])

/-! ### where a block lies in a list of held blocks -/
class Mem1 (b : Nat) (o : outParam Obj) (H : Heap) : Prop where
  mem : (b, o) ∈ H
instance Mem1.head (b : Nat) (o : Obj) (H : Heap) : Mem1 b o ((b, o) :: H) := ⟨by simp⟩
instance (priority := low) Mem1.cons (b : Nat) (o : Obj) (p : Nat × Obj) (H : Heap) [m : Mem1 b o H] : Mem1 b o (p :: H) := ⟨by simp [m.mem]⟩
instance (priority := low) Mem1.app (b : Nat) (o : Obj) (G H : Heap) [m : Mem1 b o H] : Mem1 b o (G ++ H) := ⟨by simp [m.mem]⟩

/-- H' is H with F' in the place of F. -/
class Rep (F F' : Heap) (H : Heap) (H' : outParam Heap) : Prop where
  rep : ∃ T, H.Perm (F ++ T) ∧ (F' ++ T).Perm H'
instance Rep.head (p p' : Nat × Obj) (T : Heap) : Rep [p] [p'] (p :: T) (p' :: T) := ⟨⟨T, .refl _, .refl _⟩⟩
instance Rep.here (F F' : Heap) (T : Heap) : Rep F F' (F ++ T) (F' ++ T) := ⟨⟨T, .refl _, .refl _⟩⟩
instance (priority := low) Rep.cons (F F' : Heap) (p : Nat × Obj) (H H' : Heap) [m : Rep F F' H H'] : Rep F F' (p :: H) (p :: H') :=
  ⟨by
    obtain ⟨T, h1, h2⟩ := m.rep
    exact ⟨p :: T, (List.Perm.cons p h1).trans List.perm_middle.symm, List.perm_middle.trans (List.Perm.cons p h2)⟩⟩
theorem perm_swap3 (A B C : Heap) : (A ++ (B ++ C)).Perm (B ++ (A ++ C)) := by
  rw [← List.append_assoc, ← List.append_assoc]
  exact List.Perm.append_right _ List.perm_append_comm
instance (priority := low) Rep.app (F F' : Heap) (G H H' : Heap) [m : Rep F F' H H'] : Rep F F' (G ++ H) (G ++ H') :=
  ⟨by
    obtain ⟨T, h1, h2⟩ := m.rep
    exact ⟨G ++ T, (List.Perm.append_left G h1).trans (perm_swap3 _ _ _), (perm_swap3 _ _ _).trans (List.Perm.append_left G h2)⟩⟩

theorem St.rep {F F' H H' : Heap} {R : Facts} {w w' : World} [m : Rep F F' H H'] (h : St H R w) (hs : ∀ T, St (F ++ T) R w → St (F' ++ T) R w') : St H' R w' := by
  obtain ⟨T, h1, h2⟩ := m.rep
  exact (hs T (h.perm h1)).perm h2

/-! ### temporaries -/
abbrev Slots := List (Nat × Value)
def lk : Slots → Nat → Option Value
  | [], _ => none
  | (s, v) :: L, t => bif Nat.beq s t then some v else lk L t

/-- n temporaries, of which L is known. -/
structure Knows (n : Nat) (L : Slots) (a : Act) : Prop where
  size : a.tmps.size = n
  at_ : ∀ t v, lk L t = some v → a.tmps[t]? = some v

theorem Knows.put {n : Nat} {L : Slots} {a : Act} (h : Knows n L a) {d : Nat} (hd : d < n) (v : Value) : Knows n ((d, v) :: L) (a.put (some d) v) where
  size := by simp [Act.put, h.size]
  at_ t u ht := by
    unfold lk at ht
    cases hb : Nat.beq d t with
    | true =>
      obtain rfl := Nat.eq_of_beq_eq_true hb
      simp only [hb, cond_true, Option.some.injEq] at ht
      subst ht
      simp [Act.put, h.size, hd]
    | false =>
      simp only [hb, cond_false] at ht
      have hne : d ≠ t := Nat.ne_of_beq_eq_false hb
      simp only [Act.put, Array.getElem?_setIfInBounds_ne hne]
      exact h.at_ t u ht
theorem Knows.putNone {n : Nat} {L : Slots} {a : Act} (h : Knows n L a) (v : Value) : Knows n L (a.put none v) := h
theorem Knows.sub {n : Nat} {L L' : Slots} {a : Act} (h : Knows n L a) (hs : ∀ t v, lk L' t = some v → lk L t = some v) : Knows n L' a := ⟨h.size, fun t v ht => h.at_ t v (hs t v ht)⟩

def ev (L : Slots) : Operand → Option Value
  | .tmp t => lk L t
  | .const v => some v
  | .global g => some (.pointer (some ⟨g, 0, none⟩))
  | .func f => some (.func (.func f) #[] #[])

/-- ρ gives what L knows. -/
def Reads (L : Slots) (ρ : Operand → Value) : Prop := ∀ x v, ev L x = some v → ρ x = v

theorem Knows.reads {n : Nat} {L : Slots} {a : Act} (h : Knows n L a) : Reads L a.eval := fun x v hx => by
  cases x with
  | tmp t => have := h.at_ t v hx; simp [Act.eval, this]
  | const u => exact Option.some.inj hx
  | global g => exact Option.some.inj hx
  | func f => exact Option.some.inj hx

/-! ### what is known of both -/
def Sy (n : Nat) (L : Slots) (D : List Deferred) (H : Heap) (R : Facts) (X : Act → World → Prop) : Prop :=
  ∀ a w, Knows n L a → a.defers = D → St H R w → X a w

section sy
variable {n : Nat} {L : Slots} {D : List Deferred} {H : Heap} {R : Facts} {X : Act → World → Prop}

theorem Sy.weak {L' : Slots} {H' : Heap} {R' : Facts} (h : Sy n L' D H' R' X) (hL : ∀ t v, lk L' t = some v → lk L t = some v) (hH : ∀ w, St H R w → St H' R' w) : Sy n L D H R X :=
  fun a w ha hd hs => h a w (ha.sub hL) hd (hH w hs)

theorem Sy.heap {H' : Heap} {R' : Facts} (hH : ∀ w, St H R w → St H' R' w) (h : Sy n L D H' R' X) : Sy n L D H R X := fun a w ha hd hs => h a w ha hd (hH w hs)
theorem Sy.mono {Y : Act → World → Prop} (h : Sy n L D H R X) (hXY : ∀ a w, X a w → Y a w) : Sy n L D H R Y := fun a w ha hd hs => hXY a w (h a w ha hd hs)
theorem Sy.pre {p : Prop} (hp : ∀ w, St H R w → p) (h : p → Sy n L D H R X) : Sy n L D H R X := fun a w ha hd hs => h (hp w hs) a w ha hd hs

variable {P : Program} {r : Option Nat} {Q : Exit → Act → World → Prop}
/-- The code c, then Q. -/
abbrev wpc (P : Program) (r : Option Nat) (c : Code) (Q : Exit → Act → World → Prop) : Act → World → Prop := fun a w => c.wpIn (FF r) 0 P Q a w

theorem sy_seq {x y : Code} (h : Sy n L D H R (wpc P r x (Exit.then (wpc P r y Q) Q))) : Sy n L D H R (wpc P r (.seq x y) Q) := fun a w ha hd hs => wpIn_seq (h a w ha hd hs)
theorem sy_skip (h : Sy n L D H R (Q .normal)) : Sy n L D H R (wpc P r .skip Q) := fun a w ha hd hs => wpIn_skip (h a w ha hd hs)
theorem sy_label {l : Nat} (h : Sy n L D H R (Q .normal)) : Sy n L D H R (wpc P r (.label l) Q) := fun a w ha hd hs => wpIn_label (h a w ha hd hs)
theorem sy_exit {id : Nat} (h : Sy n L D H R (Q (.exit id))) : Sy n L D H R (wpc P r (.exit id) Q) := fun a w ha hd hs => wpIn_exit (h a w ha hd hs)
theorem sy_ret (h : Sy n L D H R (Q .ret)) : Sy n L D H R (wpc P r .ret Q) := fun a w ha hd hs => wpIn_ret (h a w ha hd hs)
theorem sy_block {id : Nat} {c : Code} (h : Sy n L D H R (wpc P r c (Exit.inBlock id Q))) : Sy n L D H R (wpc P r (.block id c) Q) := fun a w ha hd hs => wpIn_block (h a w ha hd hs)
theorem sy_cond {x : Operand} {c d : Code} {t : Bool} (hx : ev L x = some (.bool t)) (ht : t = true → Sy n L D H R (wpc P r c Q)) (hf : t = false → Sy n L D H R (wpc P r d Q)) :
    Sy n L D H R (wpc P r (.cond x c d) Q) := fun a w ha hd hs => wpIn_cond_split (t := t) (ha.reads x _ hx) (fun e => ht e a w ha hd hs) (fun e => hf e a w ha hd hs)

/-- What a loop's head knows: a family of states. -/
structure Head where
  L : Slots
  H : Heap
  R : Facts
def AtHead {ι : Type} (n : Nat) (D : List Deferred) (inv : ι → Head) (j : ι) : Act → World → Prop := fun a w => Knows n (inv j).L a ∧ a.defers = D ∧ St (inv j).H (inv j).R w
def Again {ι : Type} (n : Nat) (D : List Deferred) (inv : ι → Head) (μ : ι → Nat) (i : ι) : Act → World → Prop := fun a w => ∃ j, μ j < μ i ∧ AtHead n D inv j a w

theorem wpIn_loop_idx {c : Code} {ι : Type} (inv : ι → Head) (μ : ι → Nat)
    (round : ∀ i, Sy n (inv i).L D (inv i).H (inv i).R (wpc P r c (Exit.then (Again n D inv μ i) Q)))
    (i : ι) (a : Act) (w : World) (h1 : Knows n (inv i).L a) (h2 : a.defers = D) (h3 : St (inv i).H (inv i).R w) : (Code.loop c).wpIn (FF r) 0 P Q a w := by
  intro b k cs hro hb hr
  have key : ∀ m i a w, μ i = m → Knows n (inv i).L a → a.defers = D → St (inv i).H (inv i).R w →
      ∃ e a' w', Q e a' w' ∧ ArrivesIn (Machine.fenced P (FF r)) P (lone (b.atR a (.code c :: .inLoop c :: k)) cs w) b k cs e a' w' := by
    intro m
    induction m using Nat.strongRecOn with
    | _ m ih =>
      intro i a w hm h1 h2 h3
      obtain ⟨e, a₁, w₁, hq, harr⟩ := round i a w h1 h2 h3 b (.inLoop c :: k) cs hro hb hr
      cases e with
      | normal =>
        obtain ⟨j, hlt, g1, g2, g3⟩ := hq
        obtain ⟨e₂, a₂, w₂, hq₂, harr₂⟩ := ih (μ j) (hm ▸ hlt) j a₁ w₁ rfl g1 g2 g3
        exact ⟨e₂, a₂, w₂, hq₂, .of_steps (StepsIn.trans harr (.one (fenced_calm hb hr rfl) stepR_inLoop)) harr₂⟩
      | exit id => exact ⟨_, a₁, w₁, hq, .pass (x := .inLoop c) rfl (fun _ _ => .inl (by simp)) harr⟩
      | goto l => exact ⟨_, a₁, w₁, hq, .pass (x := .inLoop c) rfl (fun _ _ => .inl (by simp)) harr⟩
      | ret => exact ⟨_, a₁, w₁, hq, .pass (x := .inLoop c) rfl (fun _ _ => .inl (by simp)) harr⟩
      | panic ch => exact ⟨_, a₁, w₁, hq, .pass (x := .inLoop c) rfl (fun _ _ => .inl (by simp)) harr⟩
      | outgrown => exact ⟨_, a₁, w₁, hq, .pass (x := .inLoop c) rfl (fun _ _ => .inl (by simp)) harr⟩
  obtain ⟨e, a', w', hq, harr⟩ := key _ i a w rfl h1 h2 h3
  exact ⟨e, a', w', hq, .of_steps (.one (fenced_calm hb hr rfl) stepR_loop) harr⟩

theorem sy_loop {c : Code} {ι : Type} (inv : ι → Head) (μ : ι → Nat) (i₀ : ι)
    (h₀ : Sy n L D H R (AtHead n D inv i₀))
    (round : ∀ i, Sy n (inv i).L D (inv i).H (inv i).R (wpc P r c (Exit.then (Again n D inv μ i) Q))) :
    Sy n L D H R (wpc P r (.loop c) Q) := by
  intro a w ha hd hs
  obtain ⟨h1, h2, h3⟩ := h₀ a w ha hd hs
  exact wpIn_loop_idx inv μ round i₀ a w h1 h2 h3

/-- L knows all that L' knows. -/
def Sub : Slots → Slots → Prop
  | [], _ => True
  | p :: L', L => lk L p.1 = some p.2 ∧ Sub L' L
theorem Sub.nil {L : Slots} : Sub [] L := trivial
theorem Sub.cons {p : Nat × Value} {L' L : Slots} (h : lk L p.1 = some p.2) (hs : Sub L' L) : Sub (p :: L') L := ⟨h, hs⟩
theorem Sub.lk {L : Slots} : ∀ {L' : Slots}, Sub L' L → ∀ t v, lk L' t = some v → Go.Proofs.Ytaldphhdkmchhaa.lk L t = some v
  | [], _, t, v, h => by simp [Go.Proofs.Ytaldphhdkmchhaa.lk] at h
  | p :: L', hs, t, v, h => by
    unfold Go.Proofs.Ytaldphhdkmchhaa.lk at h
    cases hq : Nat.beq p.1 t with
    | true =>
      obtain rfl := Nat.eq_of_beq_eq_true hq
      simp only [hq, cond_true, Option.some.injEq] at h
      subst h
      exact hs.1
    | false => exact Sub.lk hs.2 t v (by simpa only [hq, cond_false] using h)

/-- A round's end, or a loop's head: the state is one of the family. -/
theorem sy_at {ι : Type} {inv : ι → Head} {j : ι} (hL : Sub (inv j).L L) (hH : ∀ w, St H R w → St (inv j).H (inv j).R w) : Sy n L D H R (AtHead n D inv j) := fun _ w ha hd' hs => ⟨ha.sub hL.lk, hd', hH w hs⟩
theorem sy_next {ι : Type} {inv : ι → Head} {μ : ι → Nat} {i : ι} (j : ι) (hm : μ j < μ i) (hL : Sub (inv j).L L) (hH : ∀ w, St H R w → St (inv j).H (inv j).R w) :
    Sy n L D H R (Again n D inv μ i) := fun _ w ha hd' hs => ⟨j, hm, ha.sub hL.lk, hd', hH w hs⟩

/-! ### regions -/
theorem sy_draw {id : Nat} {ops : Array Oper} (bm : List Nat) (p : Plan) (hm : P.follows .mixedOrders = true) (hp : regOk ops bm p = true)
    (h : Sy n L D H R (Dv P r ops bm (Q .normal) p [])) : Sy n L D H R (wpc P r (.region id ops true) Q) :=
  fun a w ha hd hs => wp_reg_draw hm hp (h a w.drew ha hd hs.drew)
theorem sy_text {id : Nat} {ops : Array Oper} (h : Sy n L D H R (dvSeq P r ops (Q .normal) (List.range ops.size))) : Sy n L D H R (wpc P r (.region id ops false) Q) :=
  fun a w ha hd hs => wp_reg_seq (h a w ha hd hs)
end sy
end Go.Proofs.Ytaldphhdkmchhaa
