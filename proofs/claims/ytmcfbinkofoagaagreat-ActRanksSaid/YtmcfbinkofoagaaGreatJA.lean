/- What a batch within a batch comes to, and what its calls come to in one row. -/
import Derived.Test.YtmcfbinkofoagaaGreatIB
namespace Go.Proofs.YtmcfbinkofoagaaGreat
open Go Go.RowKit Sx Go.Proofs

/-- Calls that hold no others. -/
def leafOf (x : Int × Int × Int) : Cal := .mk x.1 x.2.1 x.2.2 []
def leafC (x : Int × Int × Int) : List Value := [.int .i64 x.1, .int .i64 x.2.1, .int .i64 x.2.2, .slice none 0 0]
theorem leafC_length (x : Int × Int × Int) : (leafC x).length = 4 := rfl
theorem leafsC_len (l : List (Int × Int × Int)) : (rws leafC l).length = l.length * 4 := rws_length leafC_length l
/-- The spends of a row, and its remarks. -/
def spendsN (l : List Int) : List (Int × Int × Int) := (List.range l.length).map fun (i : Nat) => ((2 : Int), 1 + (i : Int), l.getD i 0 % 8)
def remarksN (m : List Int) : List (Int × Int × Int) := m.map fun n => ((1 : Int), (0 : Int), n % 8)
theorem spendsN_len (l : List Int) : (spendsN l).length = l.length := by simp [spendsN]
theorem remarksN_len (m : List Int) : (remarksN m).length = m.length := by simp [remarksN]
theorem spendsN_take (l : List Int) {i : Nat} (h : i < l.length) : (spendsN l).take (i + 1) = (spendsN l).take i ++ [(2, 1 + (i : Int), l.getD i 0 % 8)] := by
  rw [List.take_succ_eq_append_getElem (by rw [spendsN_len]; exact h)]; simp [spendsN]
theorem remarksN_take (m : List Int) {i : Nat} (h : i < m.length) : (remarksN m).take (i + 1) = (remarksN m).take i ++ [(1, 0, m.getD i 0 % 8)] := by
  rw [List.take_succ_eq_append_getElem (by rw [remarksN_len]; exact h)]; simp [remarksN, h]
theorem spendsN_mem {l : List Int} {x : Int × Int × Int} (h : x ∈ spendsN l) (hn : l.length ≤ 3) : x.1 = 2 ∧ 1 ≤ x.2.1 ∧ x.2.1 ≤ 3 ∧ 0 ≤ x.2.2 ∧ x.2.2 ≤ 7 := by
  obtain ⟨i, hi, rfl⟩ := List.mem_map.1 h
  rw [List.mem_range] at hi
  dsimp only; omega
theorem remarksN_mem {m : List Int} {x : Int × Int × Int} (h : x ∈ remarksN m) : x.1 = 1 ∧ x.2.1 = 0 ∧ 0 ≤ x.2.2 ∧ x.2.2 ≤ 7 := by
  obtain ⟨i, -, rfl⟩ := List.mem_map.1 h
  dsimp only; omega
theorem spend_any {D : Led} (hk : D.locks = []) {to n : Int} (ht : 1 ≤ to ∧ to ≤ 3) (h0 : 0 ≤ n ∧ n ≤ 7) (h1 : 7 ≤ (D.at 0).1) : spendC 50 to n D = (D.tr 0 to n, [(3, to, n)], 0) := by
  have hto : Led.is to := ⟨by omega, by omega⟩
  unfold spendC
  rw [if_neg (by omega), if_neg]
  rw [Led.trE_free hk is0 hto (by omega), if_neg (by omega)]; simp
theorem spends_row : ∀ (pre : List (Int × Int × Int)) (D : Led), D.locks = [] → D.Ok → D.acc.length = 10 → (∀ x ∈ pre, x.1 = 2 ∧ 1 ≤ x.2.1 ∧ x.2.1 ≤ 3 ∧ 0 ≤ x.2.2 ∧ x.2.2 ≤ 7) → 7 * (pre.length : Int) ≤ (D.at 0).1 →
    ∃ D' evs, evs.length = pre.length ∧ ∀ rest, Cal.doesL 1 50 (pre.map leafOf ++ rest) D = behind evs (Cal.doesL 1 50 rest D')
  | [], D, hk, ho, hl, hx, h0 => ⟨D, [], rfl, fun rest => by simp [behind]⟩
  | x :: r, D, hk, ho, hl, hx, h0 => by
    obtain ⟨k, to, n⟩ := x
    have h1 := hx (k, to, n) (by simp)
    dsimp only at h1
    obtain ⟨rfl, h1⟩ := h1
    have hl2 : (((2, to, n) :: r).length : Int) = r.length + 1 := by simp
    have e1 : (leafOf (2, to, n)).does 1 50 D = (D.tr 0 to n, [(3, to, n)], 0) := by
      show (Cal.mk 2 to n []).does 1 50 D = _
      rw [does_spend]; exact spend_any hk (by omega) (by omega) (by omega)
    have hto : Led.is to := ⟨by omega, by omega⟩
    have hg := Led.tr_good ho hl 0 to n
    have a0 := Led.tr_at hk hl is0 hto (n := n) (by omega) (by omega) 0
    rw [if_neg (by omega), if_pos rfl] at a0
    obtain ⟨D', evs, h6, h5⟩ := spends_row r (D.tr 0 to n) (by rw [Led.tr_lk]; exact hk) hg.1 hg.2 (fun y hy => hx y (by simp [hy])) (by omega)
    refine ⟨D', [(3, to, n)] ++ evs, by simp [h6], fun rest => ?_⟩
    rw [List.map_cons, List.cons_append]
    have := behind_cons (of := 1) (cap := 50) (c := leafOf (2, to, n)) (r := r.map leafOf ++ rest) (D := D) (by rw [e1]) []
    rw [e1] at this
    simp only [behind, List.nil_append] at this ⊢
    refine Eq.trans this ?_
    rw [h5]
    simp [behind]
theorem remarks_row : ∀ (rs : List (Int × Int × Int)) (D : Led), (∀ x ∈ rs, x.1 = 1) → ∃ evs, Cal.doesL 1 50 (rs.map leafOf) D = (D, evs, 0)
  | [], D, _ => ⟨[], rfl⟩
  | x :: r, D, hx => by
    obtain ⟨k, to, n⟩ := x
    have h1 := hx (k, to, n) (by simp)
    dsimp only at h1
    subst h1
    obtain ⟨evs, h⟩ := remarks_row r D fun y hy => hx y (by simp [hy])
    have e1 : (leafOf (1, to, n)).does 1 50 D = (D, [(5, 1, n)], 0) := by simp [leafOf, Cal.does]
    refine ⟨[(5, 1, n)] ++ evs, ?_⟩
    rw [List.map_cons, Cal.doesL, e1]
    simp [h]
/-- Both ways come to the same. -/
theorem nests_law (l m : List Int) (hl : l.length ≤ 3) :
    ∃ D' evs, l.length ≤ evs.length ∧ Cal.doesL 1 50 ((spendsN l).map leafOf ++ [.mk 5 0 0 ((remarksN m).map leafOf)]) (startLed []) = (D', evs, 0) ∧ Cal.doesL 1 50 ((spendsN l ++ remarksN m).map leafOf) (startLed []) = (D', evs, 0) := by
  have d0 : ((startLed []).at 0).1 = 100 := rfl
  obtain ⟨D', evs, h7, h⟩ := spends_row (spendsN l) (startLed []) rfl (startLed_ok []) (startLed_len []) (fun x hx => spendsN_mem hx hl) (by rw [spendsN_len, d0]; omega)
  obtain ⟨evr, hr⟩ := remarks_row (remarksN m) D' fun x hx => (remarksN_mem hx).1
  rw [spendsN_len] at h7
  refine ⟨D', evs ++ evr, by rw [List.length_append]; omega, ?_, ?_⟩
  · rw [h, Cal.doesL, does_batch, hr]; simp [behind, Cal.doesL]
  · rw [List.map_append, h, hr]; rfl
theorem plain_leaf : ∀ {l : List (Int × Int × Int)}, (∀ x ∈ l, x.1 = 1 ∨ x.1 = 2) → Cal.plainL (l.map leafOf)
  | [], _ => trivial
  | x :: r, h => ⟨by have := h x (by simp); unfold leafOf Cal.plain; omega, plain_leaf fun y hy => h y (by simp [hy])⟩
theorem sz_leaf : ∀ l : List (Int × Int × Int), Cal.szL (l.map leafOf) = l.length
  | [] => rfl
  | x :: r => by
    have := sz_leaf r
    simp only [List.map_cons, Cal.szL, leafOf, Cal.sz, List.length_cons] at this ⊢; omega
/-- A leaf that may be. -/
def leafOk (x : Int × Int × Int) : Prop := (x.1 = 1 ∧ x.2.1 = 0 ∨ x.1 = 2 ∧ 0 ≤ x.2.1 ∧ x.2.1 ≤ 9) ∧ 0 ≤ x.2.2 ∧ x.2.2 ≤ 1073741824
theorem is_leaf1 {deep : Int} {x : Int × Int × Int} (h : leafOk x) : (leafOf x).isB deep = true := by
  obtain ⟨k, to, n⟩ := x
  obtain ⟨h1 | h1, h2⟩ := h
  · dsimp only at h1 h2; obtain ⟨rfl, rfl⟩ := h1; simp [leafOf, Cal.isB, h2]
  · dsimp only at h1 h2; obtain ⟨rfl, h1⟩ := h1; simp [leafOf, Cal.isB, h2, h1]
theorem is_leaf {deep : Int} : ∀ {l : List (Int × Int × Int)}, (∀ x ∈ l, leafOk x) → ∀ rest, Cal.isL deep (l.map leafOf ++ rest) = Cal.isL deep rest
  | [], _, _ => rfl
  | x :: r, h, rest => by
    have := is_leaf (deep := deep) (l := r) (fun y hy => h y (by simp [hy])) rest
    simp only [List.map_cons, List.cons_append, Cal.isL, is_leaf1 (h x (by simp)), Bool.true_and]
    exact this
theorem plainL_append : ∀ {a b : List Cal}, Cal.plainL a → Cal.plainL b → Cal.plainL (a ++ b)
  | [], _, _, h => h
  | _ :: _, _, h, h2 => ⟨h.1, plainL_append h.2 h2⟩
theorem szL_append : ∀ a b : List Cal, Cal.szL (a ++ b) = Cal.szL a + Cal.szL b
  | [], b => by simp [Cal.szL]
  | x :: r, b => by simp [Cal.szL, szL_append r b]; omega
theorem leafOk_spend {l : List Int} {x : Int × Int × Int} (h : x ∈ spendsN l) (hn : l.length ≤ 3) : leafOk x := by
  have := spendsN_mem h hn
  exact ⟨.inr ⟨this.1, by omega, by omega⟩, by omega, by omega⟩
theorem leafOk_remark {m : List Int} {x : Int × Int × Int} (h : x ∈ remarksN m) : leafOk x := by
  have := remarksN_mem h
  exact ⟨.inl ⟨this.1, this.2.1⟩, by omega, by omega⟩
/-- One that holds leaves, in memory. -/
theorem calR_leaves {B : Nat → Prop} {w : World} {b c : Nat} {ns : List (Int × Int × Int)} {sp : List Value} {T : TypeId} (hB : B b) (hb : Blk w b (rws leafC ns ++ sp) T) (h0 : 0 < ns.length) :
    CalR B w (.mk 5 0 0 (ns.map leafOf)) [.int .i64 5, .int .i64 0, .int .i64 0, .slice (some ⟨b, 0, none⟩) ns.length c] := by
  have hl : (ns.map leafOf).length = ns.length := List.length_map ..
  rw [← hl]
  refine .kids hB hb.r (by omega) (by rw [List.length_append, leafsC_len, hl]; omega) fun i hi => ?_
  rw [hl] at hi
  rw [Nat.zero_add, rws_at leafC_length sp ns i hi, List.getElem_map]
  exact .nil
/-- Leaves, and one more that holds some. -/
theorem calR_more {B : Nat → Prop} {w : World} {b c : Nat} {ns : List (Int × Int × Int)} {x : Cal} {xs sp : List Value} {T : TypeId} (hB : B b) (hb : Blk w b (rws leafC ns ++ (xs ++ sp)) T) (hx : CalR B w x xs) (hxs : xs.length = 4) :
    CalR B w (.mk 5 0 0 (ns.map leafOf ++ [x])) [.int .i64 5, .int .i64 0, .int .i64 0, .slice (some ⟨b, 0, none⟩) (ns.length + 1) c] := by
  have hl : (ns.map leafOf ++ [x]).length = ns.length + 1 := by simp
  rw [← hl]
  refine .kids hB hb.r (by omega) (by simp only [List.length_append, leafsC_len, hl]; simp; omega) fun i hi => ?_
  rw [hl] at hi
  by_cases h : i < ns.length
  · rw [Nat.zero_add, rws_at leafC_length _ ns i h, List.getElem_append_left (by simpa using h), List.getElem_map]
    exact .nil
  · have : i = ns.length := by omega
    subst this
    rw [Nat.zero_add, ← leafsC_len, List.drop_left, List.getElem_append_right (by simp)]
    rw [List.take_left' hxs]
    simpa using hx
end Go.Proofs.YtmcfbinkofoagaaGreat
