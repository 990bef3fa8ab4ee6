/- Tables of two numbers as cells; small laws on slices that are read. -/
import Derived.Test.YtmcfbinkofoagaaGreatF
namespace Go.Proofs.YtmcfbinkofoagaaGreat
open Go Go.RowKit Sx

/-- Rows of cells, one behind the other. -/
def rws {α : Type} (enc : α → List Value) : List α → List Value
  | [] => []
  | c :: r => enc c ++ rws enc r
section rws
variable {α : Type} {enc : α → List Value} {s : Nat} (he : ∀ v, (enc v).length = s)
include he
theorem rws_length : ∀ G : List α, (rws enc G).length = G.length * s
  | [] => by simp [rws]
  | c :: r => by simp [rws, rws_length r, he, Nat.succ_mul]; omega
theorem rws_at (sp : List Value) : ∀ (G : List α) (i : Nat) (h : i < G.length), ((rws enc G ++ sp).drop (i * s)).take s = enc G[i]
  | c :: r, 0, _ => by simp [rws, he]
  | c :: r, i + 1, h => by
    have h4 : (i + 1) * s = s + i * s := by rw [Nat.succ_mul]; exact Nat.add_comm _ _
    rw [h4, ← List.drop_drop]
    have h5 : (rws enc (c :: r) ++ sp).drop s = rws enc r ++ sp := by
      rw [rws, List.append_assoc, ← he c]; exact List.drop_left
    rw [h5]
    exact rws_at sp r i (by simpa using h)
theorem rws_get (sp : List Value) (G : List α) (i o : Nat) (h : i < G.length) (ho : o < s) : (rws enc G ++ sp)[i * s + o]? = (enc G[i])[o]? := by
  have h1 := congrArg (·[o]?) (rws_at he sp G i h)
  simp only [List.getElem?_take, List.getElem?_drop] at h1
  rw [if_pos ho] at h1
  exact h1
theorem rws_get0 (sp : List Value) (G : List α) (i o : Nat) (h : i < G.length) (ho : o < s) : (rws enc G ++ sp)[0 + i * s + o]? = (enc G[i])[o]? := by
  rw [Nat.zero_add]; exact rws_get he sp G i o h ho
end rws
theorem rws_append {α : Type} {enc : α → List Value} : ∀ G H : List α, rws enc (G ++ H) = rws enc G ++ rws enc H
  | [], H => rfl
  | c :: r, H => by simp [rws, rws_append r H]
theorem setAt_app : ∀ (xs ys : List Value) (o : Nat) (vs : List Value), o + vs.length ≤ xs.length → setAt (xs ++ ys) o vs = setAt xs o vs ++ ys
  | [], ys, o, vs, h => by
    have : vs = [] := List.length_eq_zero_iff.1 (by simp only [List.length_nil] at h; omega)
    subst this; simp [setAt_nil]
  | x :: xs, ys, o, [], h => by simp [setAt_nil]
  | x :: xs, ys, 0, v :: vs, h => by
    have := setAt_app xs ys 0 vs (by simp at h ⊢; omega)
    simp [setAt, this]
  | x :: xs, ys, o + 1, v :: vs, h => by
    have := setAt_app xs ys o (v :: vs) (by simp at h ⊢; omega)
    simp [setAt, this]
theorem setAt_skip : ∀ (xs ys : List Value) (o : Nat) (vs : List Value), setAt (xs ++ ys) (xs.length + o) vs = xs ++ setAt ys o vs
  | [], ys, o, vs => by simp
  | x :: xs, ys, o, [] => by simp [setAt_nil]
  | x :: xs, ys, o, v :: vs => by
    have := setAt_skip xs ys o (v :: vs)
    have h : (x :: xs).length + o = (xs.length + o) + 1 := by simp; omega
    rw [h]; simp [setAt, this]
theorem rws_set {α : Type} {enc : α → List Value} {s : Nat} (he : ∀ v, (enc v).length = s) (sp : List Value) : ∀ (G : List α) (i o : Nat) (h : i < G.length) (vs : List Value) (x : α), o + vs.length ≤ s → setAt (enc G[i]) o vs = enc x →
    setAt (rws enc G ++ sp) (i * s + o) vs = rws enc (G.set i x) ++ sp
  | c :: r, 0, o, _, vs, x, ho, hx => by
    rw [Nat.zero_mul, Nat.zero_add, rws, List.append_assoc, setAt_app _ _ _ _ (by rw [he]; exact ho)]
    simp only [List.getElem_cons_zero] at hx
    rw [hx]; simp [rws]
  | c :: r, i + 1, o, h, vs, x, ho, hx => by
    have h4 : (i + 1) * s + o = (enc c).length + (i * s + o) := by rw [Nat.succ_mul, he]; omega
    rw [h4, rws, List.append_assoc, setAt_skip, rws_set he sp r i o (by simpa using h) vs x ho (by simpa using hx)]
    simp [rws]
theorem rws_set0 {α : Type} {enc : α → List Value} {s : Nat} (he : ∀ v, (enc v).length = s) (sp : List Value) (G : List α) (i o : Nat) (h : i < G.length) (vs : List Value) (x : α) (ho : o + vs.length ≤ s) (hx : setAt (enc G[i]) o vs = enc x) :
    setAt (rws enc G ++ sp) (0 + i * s + o) vs = rws enc (G.set i x) ++ sp := by
  rw [Nat.zero_add]; exact rws_set he sp G i o h vs x ho hx

/-- A grid's cells. -/
def celC {V : Type} (enc : V → List Value) (c : (Int × Int) × V) : List Value := .int .i64 c.1.1 :: .int .i64 c.1.2 :: enc c.2
def gcs {V : Type} (enc : V → List Value) (G : List ((Int × Int) × V)) : List Value := rws (celC enc) G
theorem celC_length {V : Type} {enc : V → List Value} {s : Nat} (he : ∀ v, (enc v).length = s) (c : (Int × Int) × V) : (celC enc c).length = s + 2 := by simp [celC, he]
theorem gcs_length {V : Type} {enc : V → List Value} {s : Nat} (he : ∀ v, (enc v).length = s) (G : List ((Int × Int) × V)) : (gcs enc G).length = G.length * (s + 2) := rws_length (celC_length he) G
theorem gcs_at {V : Type} {enc : V → List Value} {s : Nat} (he : ∀ v, (enc v).length = s) (G : List ((Int × Int) × V)) (i : Nat) (h : i < G.length) :
    ((gcs enc G).drop (i * (s + 2))).take (s + 2) = .int .i64 G[i].1.1 :: .int .i64 G[i].1.2 :: enc G[i].2 := by
  have := rws_at (celC_length he) [] G i h
  rw [List.append_nil] at this
  exact this

end Go.Proofs.YtmcfbinkofoagaaGreat
namespace Go.Proofs.YtmcfbinkofoagaaGreat.Sx
open Go Go.RowKit
theorem Rd.el {w : World} {sz n : Nat} {p : Option Addr} {m c : Nat} {xs : List Value} (h : Rd w sz (.slice p m c) n xs) {i : Nat} (hi : i < n) :
    ∃ b off cs T, p = Option.some ⟨b, off, none⟩ ∧ m = n ∧ Blk w b cs T ∧ (cs.drop (off + i * sz)).take sz = (xs.drop (i * sz)).take sz ∧ off + n * sz ≤ cs.length := by
  cases h with
  | nil => omega
  | some hb hn hx =>
    rename_i b off cs T
    refine ⟨b, off, cs, T, rfl, rfl, hb, ?_, hn⟩
    rw [← hx]
    rw [List.drop_take, List.take_take, List.drop_drop]
    congr 1
    have : (i + 1) * sz ≤ n * sz := Nat.mul_le_mul_right _ hi
    rw [Nat.succ_mul] at this
    omega
theorem Own.isSl {w : World} {w0 sz : Nat} {T : TypeId} {v : Value} {cs : List Value} (h : Own w0 w sz T v cs) : ∃ p n c, v = .slice p n c := by
  cases h with
  | nil => exact ⟨_, _, _, rfl⟩
  | some h0 hb hl hc ht hn => exact ⟨_, _, _, rfl⟩
/-- A slice that holds something: its block. -/
theorem Own.blk {w : World} {w0 sz : Nat} {T : TypeId} {v : Value} {cs : List Value} (h : Own w0 w sz T v cs) (h0 : 0 < cs.length) : ∃ b n c sp, v = .slice (Option.some ⟨b, 0, Option.none⟩) n c ∧ w0 ≤ b ∧ cs.length = n * sz ∧ Blk w b (cs ++ sp) T := by
  cases h with
  | nil => simp at h0
  | some h1 hb hl hc ht hn =>
    rename_i b n c all
    refine ⟨b, n, c, all.drop (n * sz), rfl, h1, hc, ?_⟩
    rw [← ht, List.take_append_drop]; exact hb
theorem inSl.no {n c b : Nat} : ¬ inSl (.slice none n c) b := by rintro ⟨o, n, c, h⟩; cases h
theorem inSl.any {p : Option Addr} {n m c : Nat} {b : Nat} (h : inSl (.slice p n c) b) : inSl (.slice p m c) b := by
  obtain ⟨o, l, c', h⟩ := h
  cases h
  exact ⟨o, m, c, rfl⟩
theorem Rd.kp {P : Program} {w w1 : World} {sz n m : Nat} {v : Value} {xs : List Value} {B : Nat → Prop} (h : Rd w sz v n xs) (hk : Kp P B m w w1) (hB : ∀ b, inSl v b → B b) : Rd w1 sz v n xs := by
  cases h with
  | nil => exact .nil _
  | some hb hn hx => exact .some ((hk.keep _ hb.lt (hB _ ⟨_, _, _, rfl⟩)).trans hb) hn hx
theorem Blk.kp {P : Program} {w w1 : World} {b m : Nat} {cs : List Value} {T : TypeId} {B : Nat → Prop} (h : Blk w b cs T) (hk : Kp P B m w w1) (hB : B b) : Blk w1 b cs T := (hk.keep b h.lt hB).trans h
theorem Blk.kpF {P : Program} {w w1 : World} {b m : Nat} {cs : List Value} {T : TypeId} {B : Nat → Prop} (h : Blk w b cs T) (hk : Kp P B m w w1) (hm : m ≤ b) (hT : funT P T = true) : Blk w1 b cs T := (hk.recs b h.lt hm (h.notC hT)).trans h
theorem Rd.len {w : World} {sz n : Nat} {p : Option Addr} {m c : Nat} {xs : List Value} (h : Rd w sz (.slice p m c) n xs) : m = n := by
  cases h <;> rfl
theorem Rd.ch {w w1 : World} {sz n : Nat} {v : Value} {xs : List Value} {S : Nat → Prop} (h : Rd w sz v n xs) (hc : Ch S w w1) (hs : ∀ b, inSl v b → ¬ S b) : Rd w1 sz v n xs := by
  cases h with
  | nil => exact .nil _
  | some hb hn hx => exact .some (hb.ch hc (hs _ ⟨_, _, _, rfl⟩)) hn hx
theorem Rd.lt {w : World} {sz n : Nat} {v : Value} {xs : List Value} (h : Rd w sz v n xs) : ∀ b, inSl v b → b < w.heap.size := by
  rintro b ⟨off, m, c, rfl⟩
  cases h with
  | some hb hn hx => exact hb.lt
theorem Rd.isC {w : World} {sz n : Nat} {v : Value} {xs : List Value} (h : Rd w sz v n xs) : ∀ b, inSl v b → ∃ cs T, Blk w b cs T := by
  rintro b ⟨off, m, c, rfl⟩
  cases h with
  | some hb hn hx => exact ⟨_, _, hb⟩

/-- A grid: its one field is a slice of its cells. -/
structure Grd (w : World) (gb : Nat) (gv : Value) (sz : Nat) (cs : List Value) (T : TypeId) (n : Nat) : Prop where
  sb : Blk w gb [gv] T
  rd : Rd w sz gv n cs
  ne : ¬ inSl gv gb
theorem Grd.gr {w w1 : World} {gb : Nat} {gv : Value} {sz n : Nat} {cs : List Value} {T : TypeId} (h : Grd w gb gv sz cs T n) (hc : Grow w w1) : Grd w1 gb gv sz cs T n := ⟨h.sb.gr hc, h.rd.gr hc, h.ne⟩
theorem Grd.ch {w w1 : World} {gb : Nat} {gv : Value} {sz n : Nat} {cs : List Value} {T : TypeId} {S : Nat → Prop} (h : Grd w gb gv sz cs T n) (hc : Ch S w w1) (hs : ∀ b, (b = gb ∨ inSl gv b) → ¬ S b) : Grd w1 gb gv sz cs T n :=
  ⟨h.sb.ch hc (hs _ (.inl rfl)), h.rd.ch hc (fun b hb => hs b (.inr hb)), h.ne⟩
end Go.Proofs.YtmcfbinkofoagaaGreat.Sx
