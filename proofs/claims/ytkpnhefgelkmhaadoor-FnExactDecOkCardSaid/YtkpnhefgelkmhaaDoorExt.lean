/- Contracts of functions that are walked by hand: two that keep a row of 32 numbers in a variable of their own; no condition beyond what their plain functions name. -/
import Derived.Test.YtkpnhefgelkmhaaDoorProg
import Derived.WalkKit
import Derived.Below
import Derived.KernelRfl
import Derived.Tactics
import Derived.Deep.WholeRow
import Derived.Lib.OthersKept
import Derived.LoopTactic
import Derived.Test.YtkpnhefgelkmhaaDoorLay
import Derived.Test.YtkpnhefgelkmhaaDoorModelU
namespace Go.Proofs.YtkpnhefgelkmhaaDoor.Ext
open Go.RowKit Go.Proofs.YtkpnhefgelkmhaaDoorW.PrintWords Go.Proofs.YtkpnhefgelkmhaaDoor.Xw Go.Proofs.YtkpnhefgelkmhaaDoor
def koiTab : List Int := [1102, 1072, 1073, 1094, 1076, 1077, 1092, 1075, 1093, 1080, 1081, 1082, 1083, 1084, 1085, 1086, 1087, 1103, 1088, 1089, 1090, 1091, 1078, 1074, 1100, 1099, 1079, 1096, 1101, 1097, 1095, 1098]
def winTab : List Int := [8364, 0, 8218, 402, 8222, 8230, 8224, 8225, 710, 8240, 352, 8249, 338, 0, 381, 0, 0, 8216, 8217, 8220, 8221, 8226, 8211, 8212, 732, 8482, 353, 8250, 339, 0, 382, 376]
def impl_koiSign.f (a0 : Int) : Option Int := if a0 ≥ 224 then (if a0 < 256 then some (rd koiTab (a0 - 224) - 32) else none) else if a0 ≥ 192 then some (rd koiTab (a0 - 192)) else if a0 = 163 then some 1105 else if a0 = 179 then some 1025 else some 0
def impl_winSign.f (a0 : Int) : Option Int := if a0 ≥ 160 then some a0 else if a0 ≥ 128 then some (rd winTab (a0 - 128)) else none
theorem run_alloc_row {P : Program} {t n : Nat} {c : Array Value} (hi : (P.info? t).map (fun i => (i.zero, i.size)) = some (some (.agg c), n))
    (ev : Operand → Value) (o : Oper) (W : World) (ho : o.op = .alloc t) : (execOp ev o).run P W = .ok (.value (.pointer (some ⟨W.heap.size, 0, none⟩))) (W.alloc (.cells c t)) := by
  have hz := (zero_of_info hi).1
  simp only [execOp, ho, Instr.alloc]
  simp [hz, newVar, Value.cells, newRow]
theorem ints_one (l : List Int) : ((l.map (Value.int .i64)).toArray.all (·.oneCell')) = true := by simp [Value.oneCell']
theorem run_store_row {P : Program} {t n : Nat} {c c' : Array Value} (hi : (P.info? t).map (·.size) = some n) (hn : c'.size = n) (ho : c.size = c'.size) (h1 : c'.all (·.oneCell') = true)
    (ev : Operand → Value) (o : Oper) (W : World) (p x : Operand) (hop : o.op = .store t p x) (hp : ev p = .pointer (some ⟨W.heap.size, 0, none⟩)) (hx : ev x = .agg c') : (execOp ev o).run P (W.alloc (.cells c t)) = .ok .skip (W.alloc (.cells c' t)) := by
  simp only [execOp, hop, hp, hx]
  have := run_storeAt_new (P := P) W t c c' (by rw [hi, hn]) ho h1
  simp [this]
theorem rd_some (l : List Int) (j : Nat) (h : j < l.length) : l[j]? = some (rd l (j : Int)) := by
  rw [List.getElem?_eq_getElem h]; simp [rd, List.getD_eq_getElem?_getD, List.getElem?_eq_getElem h]
theorem tab_all : ∀ x ∈ koiTab, 1072 ≤ x ∧ x ≤ 1103 := by decide
theorem tab_range (j : Nat) (h : j < koiTab.length) : 1072 ≤ rd koiTab (j : Int) ∧ rd koiTab (j : Int) ≤ 1103 := by
  have := rd_some koiTab j h
  exact tab_all _ (List.mem_of_getElem? this)
/-! unicode/utf8's two tables, as their text lays them -/
def TabsOk (w : World) : Prop := Lib.Utf8Tabs 0 1 w
theorem TabsOk.below {w w' : World} (h : TabsOk w) (hb : Below w.heap.size w w') : TabsOk w' := by
  have k : ∀ (a : Addr) (v : Value), w.cell? a = some v → w'.cell? a = some v := fun a v hv => (hb.cell (World.block_lt_of_cell? w _ hv)).trans hv
  exact ⟨fun c hc => k _ _ (h.1 c hc), fun i hi => ⟨k _ _ (h.2 i hi).1, k _ _ (h.2 i hi).2⟩⟩
theorem TabsOk.drawn {w w' : World} (h : TabsOk w) (hd : Drawn0 w w') : TabsOk w' := by
  obtain ⟨n, rfl⟩ := hd
  exact h.below (pw_below_drewN (Below.refl _ _) n)
def bytesOk (l : List Int) : Bool := l.all fun x => decide (0 ≤ x) && decide (x ≤ 255)
theorem bytesOk_iff {l : List Int} : bytesOk l = true ↔ Base.Bytes l := by
  unfold bytesOk Base.Bytes
  rw [List.all_eq_true]
  exact ⟨fun h x hx => by simpa using h x hx, fun h x hx => by simpa using h x hx⟩
theorem get_str (l : List Int) (hb : Base.Bytes l) (i : Nat) : (((strOfNums l).get! i).toNat : Int) = l.getD i 0 ∧ ((strOfNums l).get! i).toNat = (l.getD i 0).toNat := by
  have h : ((strOfNums l).get! i).toNat = (l.getD i 0).toNat := by
    show ((l.map fun n => UInt8.ofNat n.toNat).toArray[i]!).toNat = _
    by_cases hi : i < l.length
    · rw [List.getD_eq_getElem?_getD, List.getElem?_eq_getElem hi]
      have := hb _ (List.getElem_mem hi)
      simp [getElem!_pos, hi]
      omega
    · rw [List.getD_eq_getElem?_getD, List.getElem?_eq_none (by omega)]
      simp [getElem!_neg, hi]
      rfl
  refine ⟨?_, h⟩
  have := hb.rd (i : Int)
  rw [Model.rd_nat] at this
  omega
theorem decL_str (l : List Int) (hb : Base.Bytes l) (hl : l ≠ []) : Lib.decodeGo (strOfNums l) = Model.decL l := by
  have h1 : l.length ≠ 0 := fun h => hl (List.eq_nil_of_length_eq_zero h)
  have hs : (strOfNums l).size = l.length := strOfNums_size l
  unfold Lib.decodeGo Model.decL
  rw [if_neg (by omega), Lib.decode_at, hs, Nat.sub_zero, (get_str l hb _).2, (get_str l hb _).2, (get_str l hb _).2, (get_str l hb _).2]
/-- A row that is read, and not empty, lies at a plain address; its cells. -/
theorem row_at {w : World} {A : Option Addr} {l : List Int} (h : Kd.C (Kd.int .u8) w A l.length l) (hl : l ≠ []) : ∃ b off, A = some ⟨b, off, none⟩ ∧ ∀ j, j < l.length → w.cell? ⟨b, off + j, none⟩ = some (.int .u8 (l.getD j 0)) := by
  have h1 : 0 < l.length := List.length_pos_iff.2 hl
  obtain ⟨ad, e, h0⟩ := Kd.at_int h 0 (by omega) (by omega)
  obtain ⟨b, off, spot⟩ := ad
  have hsp : spot = none := by
    cases spot with
    | none => rfl
    | some q =>
      have h2 : w.cell? ⟨b, off, some q⟩ = some (.int .u8 (rd l 0)) := by simpa [Addr.add] using h0
      unfold World.cell? at h2
      split at h2
      · simp at h2
      · cases h2
  subst hsp
  refine ⟨b, off, e, fun j hj => ?_⟩
  obtain ⟨ad, e2, hj2⟩ := Kd.at_int h (j : Int) (by omega) (by omega)
  rw [e] at e2
  injection e2 with e2
  subst e2
  rw [Model.rd_nat, Int.toNat_natCast] at hj2
  by_cases j0 : j = 0
  · subst j0; simpa [Addr.add] using hj2
  · simpa [Addr.add, j0] using hj2

end Go.Proofs.YtkpnhefgelkmhaaDoor.Ext
