/- The plain parts of one law's proof, one behind the other: of no condition of their own. -/
import Derived.Test.YtbpkngahnmoocaaDoorGa
import Derived.Test.YtbpkngahnmoocaaDoorItx
import Derived.Lib.ItoaLen
import Derived.Test.YtbpkngahnmoocaaDoorF1
import Derived.Test.YtbpkngahnmoocaaDoorF2
import Derived.Test.YtbpkngahnmoocaaDoorF3
import Derived.Test.YtbpkngahnmoocaaDoorF5
import Derived.Test.YtbpkngahnmoocaaDoorV
import Derived.Deep.Slices
import Derived.ProofKit
import Derived.Test.YtbpkngahnmoocaaDoorRows
import Derived.Test.YtbpkngahnmoocaaDoorProg
import Derived.LaidMore
import Derived.LaidHandle
import Derived.OpenShut
import Derived.Lib.LaidTab
import Derived.Stop.LaidErr
import Derived.Stop.Joined
set_option linter.unusedSimpArgs false
set_option linter.unusedVariables false
namespace Go.Proofs.YtbpkngahnmoocaaDoor.G
open Go.RowKit Go.Proofs.YtbpkngahnmoocaaDoorW.PrintWords

abbrev big : Int := 4611686018427387904

theorem w64 {x : Int} (h0 : -9223372036854775808 ≤ x) (h1 : x ≤ 9223372036854775807) : wrap64 x = x := by
 unfold wrap64
 omega
theorem lt_mid {α : Type} (pre : List α) (t : α) (suf : List α) : (pre.length : Int) < ((pre ++ t :: suf).length : Int) := by
 simp; omega
theorem nlt_end {α : Type} (pre : List α) : ¬ (pre.length : Int) < ((pre ++ []).length : Int) := by
 simp
theorem nn (n : Nat) : 0 ≤ (n : Int) := Int.natCast_nonneg n
theorem nn0 (n : Nat) : (0 ≤ (n : Int)) = True := eq_true (nn n)
theorem app_one {α : Type} (pre : List α) (t : α) (suf : List α) : pre ++ t :: suf = (pre ++ [t]) ++ suf := by simp
theorem w_succ {α : Type} {pre : List α} {t : α} (h : (pre.length : Int) < big) : wrap64 ((pre.length : Int) + 1) = ((pre ++ [t]).length : Int) := by
 rw [w64 (by omega) (by unfold big at h; omega)]; simp
theorem getD_mid {α : Type} (pre : List α) (t : α) (suf : List α) (d : α) : (pre ++ t :: suf).getD ((pre.length : Int)).toNat d = t := by
 simp [List.getD]
theorem rd_mid (pre : List Int) (t : Int) (suf : List Int) : rd (pre ++ t :: suf) (pre.length : Int) = t := by
 unfold rd; exact getD_mid pre t suf 0
theorem rdOf_mid {α : Type} (d : α) (pre : List α) (t : α) (suf : List α) : rdOf d (pre ++ t :: suf) (pre.length : Int) = t := by
 unfold rdOf; exact getD_mid pre t suf d
theorem len_mid {α : Type} {pre : List α} {t : α} {suf : List α} (h : ((pre ++ t :: suf).length : Int) < big) : (pre.length : Int) < big := by
 simp at h; unfold big at *; omega
theorem len_app {α : Type} {pre : List α} {t : α} {suf : List α} (h : ((pre ++ t :: suf).length : Int) < big) : (((pre ++ [t]) ++ suf).length : Int) < big := by
 rw [← app_one]; exact h

theorem Ev.const {α β : Type} {a : Option α} {f : Nat → α → Option β} {x : α} {r : β} (h : a = some x) (k : Ev (fun n => f n x) r) : Ev (fun n => a.bind (f n)) r := by
 subst h; exact k
theorem Ev.val {α : Type} {a : Option α} {r : α} (h : a = some r) : Ev (fun _ => a) r := ⟨0, fun _ _ => h⟩
theorem Ev.eq {α : Type} {g : Nat → Option α} {r s : α} (h : Ev g r) (e : r = s) : Ev g s := e ▸ h
theorem Ev.unique {α : Type} {g : Nat → Option α} {r s : α} (h : Ev g r) (k : Ev g s) : r = s := by
 obtain ⟨K, h⟩ := h
 obtain ⟨L, k⟩ := k
 have := (h (max K L) (by omega)).symm.trans (k (max K L) (by omega))
 injection this

def tlt (s t : Tie) : Prop := s.f0 < t.f0 ∨ s.f0 = t.f0 ∧ s.f1 < t.f1
instance (s t : Tie) : Decidable (tlt s t) := by unfold tlt; infer_instance
def inr (n : Int) (t : Tie) : Prop := 0 ≤ t.f0 ∧ t.f0 < t.f1 ∧ t.f1 < n
instance (n : Int) (t : Tie) : Decidable (inr n t) := by unfold inr; infer_instance
def asc : List Tie → Prop
 | [] => True
 | [_] => True
 | a :: b :: r => tlt a b ∧ asc (b :: r)
instance asc_dec : (l : List Tie) → Decidable (asc l)
 | [] => isTrue trivial
 | [_] => isTrue trivial
 | a :: b :: r => by
  have := asc_dec (b :: r)
  unfold asc
  infer_instance
def ok (n : Int) (E : List Tie) : Prop := 0 ≤ n ∧ n ≤ 8 ∧ (∀ t ∈ E, inr n t) ∧ asc E
instance (n : Int) (E : List Tie) : Decidable (ok n E) := by unfold ok; infer_instance

theorem tlt_trans {a b c : Tie} (h : tlt a b) (k : tlt b c) : tlt a c := by
 unfold tlt at *; omega
theorem tlt_irrefl (a : Tie) : ¬ tlt a a := by unfold tlt; omega
theorem tlt_asymm {a b : Tie} (h : tlt a b) : ¬ tlt b a := by unfold tlt at *; omega
theorem tlt_tri (a b : Tie) : tlt a b ∨ a = b ∨ tlt b a := by
 obtain ⟨a0, a1⟩ := a
 obtain ⟨b0, b1⟩ := b
 unfold tlt
 simp only [Tie.mk.injEq]
 omega
theorem asc_cons {a : Tie} {l : List Tie} : asc (a :: l) ↔ (∀ t ∈ l, tlt a t) ∧ asc l := by
 induction l generalizing a with
 | nil => simp [asc]
 | cons b r ih =>
  constructor
  ·intro h
   obtain ⟨h1, h2⟩ := h
   refine ⟨fun t ht => ?_, h2⟩
   rcases List.mem_cons.1 ht with rfl | ht
   ·exact h1
   ·exact tlt_trans h1 ((ih.1 h2).1 t ht)
  ·rintro ⟨h1, h2⟩
   exact ⟨h1 b (List.mem_cons_self), h2⟩
theorem asc_pairwise {l : List Tie} : asc l ↔ l.Pairwise tlt := by
 induction l with
 | nil => simp [asc]
 | cons a l ih => rw [asc_cons, List.pairwise_cons, ih]
theorem asc_nodup {l : List Tie} (h : asc l) : l.Nodup := by
 rw [asc_pairwise] at h
 exact h.imp (fun {a b} hab e => by subst e; exact tlt_irrefl a hab)
theorem asc_sublist {l m : List Tie} (h : asc m) (s : l.Sublist m) : asc l := by
 rw [asc_pairwise] at *; exact h.sublist s
theorem asc_filter {l : List Tie} (p : Tie → Bool) (h : asc l) : asc (l.filter p) := asc_sublist h List.filter_sublist
theorem ok_filter {n : Int} {E : List Tie} (p : Tie → Bool) (h : ok n E) : ok n (E.filter p) :=
 ⟨h.1, h.2.1, fun t ht => h.2.2.1 t (List.mem_filter.1 ht).1, asc_filter p h.2.2.2⟩
theorem ok_sublist {n : Int} {E F : List Tie} (h : ok n E) (s : F.Sublist E) : ok n F :=
 ⟨h.1, h.2.1, fun t ht => h.2.2.1 t (s.subset ht), asc_sublist h.2.2.2 s⟩
theorem asc_len {l : List Tie} (lo : Int) (hl : ∀ t ∈ l, 0 ≤ t.f0 ∧ t.f0 < 8 ∧ 0 ≤ t.f1 ∧ t.f1 < 8) (h : asc l) (hlo : ∀ t ∈ l, lo ≤ t.f0 * 8 + t.f1) (h64 : lo ≤ 64) : (l.length : Int) ≤ 64 - lo := by
 induction l generalizing lo with
 | nil => simp; omega
 | cons a r ih =>
  obtain ⟨h1, h2⟩ := asc_cons.1 h
  have ha := hlo a (List.mem_cons_self)
  have hb := hl a (List.mem_cons_self)
  have := ih (a.f0 * 8 + a.f1 + 1) (fun t ht => hl t (List.mem_cons_of_mem _ ht)) h2 (fun t ht => by
   have := h1 t ht
   have hc := hl t (List.mem_cons_of_mem _ ht)
   unfold tlt at this; omega) (by omega)
  simp only [List.length_cons]
  omega
theorem ok_len {n : Int} {E : List Tie} (h : ok n E) : (E.length : Int) ≤ 64 := by
 have := asc_len (l := E) 0 (fun t ht => by have := h.2.2.1 t ht; have := h.2.1; unfold inr at *; omega) h.2.2.2 (fun t ht => by have := h.2.2.1 t ht; unfold inr at this; omega) (by omega)
 omega

end Go.Proofs.YtbpkngahnmoocaaDoor.G

namespace Go.Proofs.YtbpkngahnmoocaaDoor.P
open Go.RowKit Go.Proofs.YtbpkngahnmoocaaDoorW.PrintWords Go.Proofs.YtbpkngahnmoocaaDoor.G
def isInt (n : Int) : Prop := -9223372036854775808 ≤ n ∧ n ≤ 9223372036854775807
theorem decB_size {n : Int} (h : isInt n) : (decB n).size ≤ 21 := by
 have := Lib.itoa_length_le n h.1 h.2
 simpa [decB, ByteArray.size] using this
def sayB : List Int → ByteArray
 | [] => ⟨#[]⟩
 | x :: r => ((⟨#[32]⟩ : ByteArray) ++ decB x) ++ sayB r
theorem empty_app (b : ByteArray) : (⟨#[]⟩ : ByteArray) ++ b = b := ByteArray.empty_append
theorem app_empty (b : ByteArray) : b ++ (⟨#[]⟩ : ByteArray) = b := ByteArray.append_empty
theorem sayB_app : ∀ a b : List Int, sayB (a ++ b) = sayB a ++ sayB b
 | [], b => by rw [List.nil_append, sayB, empty_app]
 | x :: a, b => by
  rw [List.cons_append, sayB, sayB, sayB_app a b]
  simp only [ByteArray.append_assoc]
theorem size_app (a b : ByteArray) : (a ++ b).size = a.size + b.size := ByteArray.size_append
theorem sayB_size : ∀ l : List Int, (∀ x ∈ l, isInt x) → (sayB l).size ≤ 22 * l.length
 | [], _ => by simp [sayB, ByteArray.size]
 | x :: r, h => by
  have a := sayB_size r (fun y hy => h y (by simp [hy]))
  have b := decB_size (h x (by simp))
  have c : (⟨#[32]⟩ : ByteArray).size = 1 := rfl
  rw [sayB, size_app, size_app, c, List.length_cons]
  omega
theorem sayI_l0 : ∀ (suf p : List Int) (out : ByteArray), (∀ x ∈ suf, isInt x) → ((p ++ suf).length : Int) ≤ 1048576 → out.size ≤ 22 * p.length →
  Ev (fun k => impl_LiveSay.l0 k out (p ++ suf) ((p ++ suf).length : Int) (p.length : Int)) (out ++ sayB suf) := by
 intro suf
 induction suf with
 | nil =>
  intro p out _ _ _
  refine Ev.step (fun k => by simp only [impl_LiveSay.l0, nlt_end, if_false] <;> exact rfl) (Ev.val ?_)
  rw [sayB, app_empty]
 | cons t suf ih =>
  intro p out h hb ho
  have hl : (p ++ t :: suf).length = p.length + (suf.length + 1) := by simp
  have ht := h t (by simp)
  have hd := decB_size ht
  have hp : (p.length : Int) < big := by unfold big; omega
  have c1 : 1 + (decB t).size ≤ 9223372036854775807 := by omega
  have s1 : (⟨#[32]⟩ : ByteArray).size = 1 := rfl
  have sz : ((⟨#[32]⟩ : ByteArray) ++ decB t).size = 1 + (decB t).size := by rw [size_app, s1]
  have c2 : out.size + ((⟨#[32]⟩ : ByteArray) ++ decB t).size ≤ 9223372036854775807 := by rw [sz]; omega
  have it : strconv_Itoa.f t = some (decB t) := by unfold strconv_Itoa.f; rw [if_pos ht.1, if_pos ht.2]
  refine Ev.step (fun k => by simp only [impl_LiveSay.l0, lt_mid, nn, if_true, rd_mid, it, Option.bind_some, if_pos c1, if_pos c2, w_succ (t := t) hp] <;> exact rfl) ?_
  rw [app_one p t suf]
  refine Ev.eq (ih (p ++ [t]) (out ++ ((⟨#[32]⟩ : ByteArray) ++ decB t)) (fun x hx => h x (by simp [hx])) (by rw [← app_one]; exact hb) (by rw [size_app, sz, List.length_append, List.length_singleton]; omega)) ?_
  rw [sayB, ByteArray.append_assoc]
theorem sayI_ev (l : List Int) (h : ∀ x ∈ l, isInt x) (hl : (l.length : Int) ≤ 1048576) : Ev (fun k => impl_LiveSay.f k l) (sayB l) := by
 unfold impl_LiveSay.f
 refine Ev.eq (sayI_l0 l [] ⟨#[]⟩ h hl (by simp [ByteArray.size])) (empty_app _)
theorem bytes_one (x : Int) (h0 : 0 ≤ x) (h1 : x < 256) : strOfNums [x] = ⟨#[UInt8.ofNat x.toNat]⟩ := by
 unfold strOfNums
 simp
theorem dec_ev : ∀ (m : Nat) (n : Int), 0 ≤ n → n ≤ 9223372036854775807 → n.toNat ≤ m → Ev (fun k => spec_l6Dec.f k n) (⟨(Lib.decDigits n.toNat).toArray⟩ : ByteArray) := by
 intro m
 induction m using Nat.strongRecOn with
 | _ m ih =>
  intro n h0 h1 hm
  have c1 : ¬ n < -9223372036854775807 := by omega
  have c2 : ¬ n < 0 := by omega
  by_cases c : n < 10
  ·have w : wrap64 (48 + n) % 256 = 48 + n := by rw [w64 (by omega) (by omega)]; omega
   refine Ev.step (fun k => by simp only [spec_l6Dec.f, if_neg c1, if_neg c2, if_pos c, w] <;> exact rfl) (Ev.val ?_)
   rw [Lib.decDigits_one (show n.toNat < 10 by omega), bytes_one _ (by omega) (by omega), show (48 + n).toNat = 48 + n.toNat by omega]
  ·have t1 : Int.tdiv n 10 = n / 10 := Int.tdiv_eq_ediv_of_nonneg h0
   have t2 : Int.tmod n 10 = n % 10 := Int.tmod_eq_emod_of_nonneg h0
   have w1 : wrap64 (Int.tdiv n 10) = n / 10 := by rw [t1]; exact w64 (by omega) (by omega)
   have w2 : wrap64 (48 + Int.tmod n 10) % 256 = 48 + n % 10 := by rw [t2, w64 (by omega) (by omega)]; omega
   have g := ih (n / 10).toNat (by omega) (n / 10) (by omega) (by omega) (Nat.le_refl _)
   have e10 : (n / 10).toNat = n.toNat / 10 := by omega
   have ed : Lib.decDigits n.toNat = Lib.decDigits (n.toNat / 10) ++ [UInt8.ofNat (48 + n.toNat % 10)] := by rw [Lib.decDigits, dif_neg (by omega)]
   have eb : strOfNums [48 + n % 10] = ⟨#[UInt8.ofNat (48 + n.toNat % 10)]⟩ := by rw [bytes_one _ (by omega) (by omega), show (48 + n % 10).toNat = 48 + n.toNat % 10 by omega]
   refine Ev.step (fun k => by simp only [spec_l6Dec.f, if_neg c1, if_neg c2, if_neg c, w1, w2, Option.bind_some, eb] <;> exact rfl) ?_
   refine Ev.bind g ?_
   have sz : (⟨(Lib.decDigits (n / 10).toNat).toArray⟩ : ByteArray).size + (⟨#[UInt8.ofNat (48 + n.toNat % 10)]⟩ : ByteArray).size ≤ 9223372036854775807 := by
    have := decB_size (n := n / 10) ⟨by omega, by omega⟩
    have e : decB (n / 10) = ⟨(Lib.decDigits (n / 10).toNat).toArray⟩ := by unfold decB Lib.itoa; rw [if_neg (by omega)]
    rw [e] at this
    have s1 : (⟨#[UInt8.ofNat (48 + n.toNat % 10)]⟩ : ByteArray).size = 1 := rfl
    omega
   simp only [if_pos sz]
   refine Ev.val ?_
   rw [ed, e10]
   exact congrArg some (ByteArray.ext (by simp))
theorem decS_ev (n : Int) (h : isInt n) : Ev (fun k => spec_l6Dec.f k n) (decB n) := by
 obtain ⟨h0, h1⟩ := h
 by_cases c : n < -9223372036854775807
 ·have e : n = -9223372036854775808 := by omega
  subst e
  refine Ev.step (fun k => by simp only [spec_l6Dec.f, if_pos c] <;> exact rfl) (Ev.val ?_)
  simp [decB, Lib.itoa, Lib.decDigits]
 ·by_cases d : n < 0
  ·have w : wrap64 (-n) = -n := w64 (by omega) (by omega)
   refine Ev.step (fun k => by simp only [spec_l6Dec.f, if_neg c, if_pos d, w] <;> exact rfl) ?_
   refine Ev.bind (dec_ev _ (-n) (by omega) (by omega) (Nat.le_refl _)) ?_
   have e : decB n = (⟨#[45]⟩ : ByteArray) ++ ⟨(Lib.decDigits (-n).toNat).toArray⟩ := by
    unfold decB Lib.itoa
    rw [if_pos d, show n.natAbs = (-n).toNat by omega]
    apply ByteArray.ext
    simp
   have sz : 1 + (⟨(Lib.decDigits (-n).toNat).toArray⟩ : ByteArray).size ≤ 9223372036854775807 := by
    have := decB_size (n := n) ⟨h0, h1⟩
    rw [e, size_app] at this
    have s1 : (⟨#[45]⟩ : ByteArray).size = 1 := rfl
    omega
   simp only [if_pos sz]
   exact Ev.val (by rw [e])
  ·refine Ev.eq (dec_ev _ n (by omega) h1 (Nat.le_refl _)) ?_
   unfold decB Lib.itoa
   rw [if_neg d]
theorem sayS_l0 : ∀ (suf p : List Int) (out : ByteArray), (∀ x ∈ suf, isInt x) → ((p ++ suf).length : Int) ≤ 1048576 → out.size ≤ 22 * p.length →
  Ev (fun k => spec_LiveSay.l0 k (p ++ suf) out (p.length : Int)) (out ++ sayB suf) := by
 intro suf
 induction suf with
 | nil =>
  intro p out _ _ _
  refine Ev.step (fun k => by simp only [spec_LiveSay.l0, nlt_end, if_false] <;> exact rfl) (Ev.val ?_)
  rw [sayB, app_empty]
 | cons t suf ih =>
  intro p out h hb ho
  have hl : (p ++ t :: suf).length = p.length + (suf.length + 1) := by simp
  have ht := h t (by simp)
  have hd := decB_size ht
  have hp : (p.length : Int) < big := by unfold big; omega
  have s1 : (⟨#[32]⟩ : ByteArray).size = 1 := rfl
  have c1 : out.size + 1 ≤ 9223372036854775807 := by omega
  have so : (out ++ (⟨#[32]⟩ : ByteArray)).size = out.size + 1 := by rw [size_app, s1]
  have c2 : (out ++ (⟨#[32]⟩ : ByteArray)).size + (decB t).size ≤ 9223372036854775807 := by rw [so]; omega
  refine Ev.step (fun k => by simp only [spec_LiveSay.l0, lt_mid, nn, if_true, rd_mid, if_pos c1, w_succ (t := t) hp] <;> exact rfl) ?_
  refine Ev.bind (decS_ev t ht) ?_
  simp only [if_pos c2]
  rw [app_one p t suf]
  refine Ev.eq (ih (p ++ [t]) ((out ++ (⟨#[32]⟩ : ByteArray)) ++ decB t) (fun x hx => h x (by simp [hx])) (by rw [← app_one]; exact hb) (by rw [size_app, so, List.length_append, List.length_singleton]; omega)) ?_
  rw [sayB, ByteArray.append_assoc, ByteArray.append_assoc, ByteArray.append_assoc]
theorem sayS_ev (l : List Int) (h : ∀ x ∈ l, isInt x) (hl : (l.length : Int) ≤ 1048576) : Ev (fun k => spec_LiveSay.f k l) (sayB l) := by
 unfold spec_LiveSay.f
 refine Ev.eq (sayS_l0 l [] ⟨#[]⟩ h hl (by simp [ByteArray.size])) (empty_app _)
end Go.Proofs.YtbpkngahnmoocaaDoor.P

namespace Go.Proofs.YtbpkngahnmoocaaDoor.G
open Go.RowKit Go.Proofs.YtbpkngahnmoocaaDoorW.PrintWords
def octs (l : List Int) : Prop := ∀ x ∈ l, 0 ≤ x ∧ x ≤ 255
theorem rd_byte {l : List Int} (h : octs l) (i : Int) : 0 ≤ rd l i ∧ rd l i ≤ 255 := by
 unfold rd
 by_cases c : i.toNat < l.length
 ·rw [List.getD_eq_getElem?_getD, List.getElem?_eq_getElem c]
  exact h _ (List.getElem_mem c)
 ·rw [List.getD_eq_getElem?_getD, List.getElem?_eq_none (by omega)]
  simp
theorem xor_nn {a b : Int} (h0 : 0 ≤ a) (h1 : a < 9223372036854775808) (h2 : 0 ≤ b) (h3 : b < 9223372036854775808) : 0 ≤ Go.bits .xor .i64 a b := by
 obtain ⟨x, rfl⟩ := Int.eq_ofNat_of_zero_le h0
 obtain ⟨y, rfl⟩ := Int.eq_ofNat_of_zero_le h2
 have hx : x ^^^ y < 2 ^ 63 := Nat.xor_lt_two_pow (by omega) (by omega)
 have e1 : (BitVec.ofInt 64 (x : Int)).toNat = x := by
  rw [BitVec.ofInt_natCast, BitVec.toNat_ofNat]; exact Nat.mod_eq_of_lt (by omega)
 have e2 : (BitVec.ofInt 64 (y : Int)).toNat = y := by
  rw [BitVec.ofInt_natCast, BitVec.toNat_ofNat]; exact Nat.mod_eq_of_lt (by omega)
 show 0 ≤ IntKind.i64.wrap ((BitVec.ofInt 64 (x : Int) ^^^ BitVec.ofInt 64 (y : Int)).toNat : Int)
 rw [BitVec.toNat_xor, e1, e2]
 simp [IntKind.wrap, IntKind.bits, IntKind.signed]
 omega
theorem tmod_nn {a b : Int} (h : 0 ≤ a) (hb : 0 < b) : 0 ≤ Int.tmod a b ∧ Int.tmod a b < b := by
 rw [Int.tmod_eq_emod_of_nonneg h]
 exact ⟨Int.emod_nonneg _ (by omega), Int.emod_lt_of_pos _ hb⟩
theorem tdiv_nn {a b : Int} (h : 0 ≤ a) (hb : 0 ≤ b) : 0 ≤ Int.tdiv a b ∧ Int.tdiv a b ≤ a := by
 rw [Int.tdiv_eq_ediv_of_nonneg h]
 exact ⟨Int.ediv_nonneg h hb, Int.ediv_le_self _ h⟩
def Drawn (lo hi : Int) (M : Nat) (c p : Int) (r : Int × List Tie × Int) : Prop := lo ≤ r.1 ∧ r.1 ≤ hi ∧ r.2.1.length ≤ M ∧ p ≤ r.2.2 ∧ r.2.2 ≤ p + c
end Go.Proofs.YtbpkngahnmoocaaDoor.G
namespace Go.Proofs.YtbpkngahnmoocaaDoor.P
open Go.RowKit Go.Proofs.YtbpkngahnmoocaaDoorW.PrintWords Go.Proofs.YtbpkngahnmoocaaDoor.G
theorem open_eq (l : List Int) (h : octs l) : ∃ s, spec_l6Open.f l = some (s, 0) ∧ octs s ∧ s.length ≤ 2000 := by
 unfold spec_l6Open.f
 by_cases c : (l.length : Int) > 2000
 ·have c2 : (2000 : Int) ≤ (l.length : Int) := by omega
  exact ⟨l.take 2000, by simp only [if_pos c, if_pos c2], fun x hx => h x (List.mem_of_mem_take hx), List.length_take_le _ _⟩
 ·exact ⟨l, by simp only [if_neg c], h, by omega⟩
theorem pick_ev (s : List Int) (hs : octs s) (hl : s.length ≤ 2000) (p n : Int) (h0 : 0 ≤ p) (h1 : p ≤ 100000) :
  ∃ v, Ev (fun k => spec_l6Rd_pick.f k s p n) (v, p + 1) ∧ 0 ≤ v ∧ (v < n ∨ n < 1 ∧ v = 0) := by
 unfold spec_l6Rd_pick.f
 rw [w64 (x := p + 1) (by omega) (by omega)]
 by_cases c : n < 1
 ·refine ⟨0, ?_, Int.le_refl 0, .inr ⟨c, rfl⟩⟩
  simp only [if_pos c]
  exact Ev.step (fun k => by simp only [spec_l6Rd_pick.j0, if_true] <;> exact rfl) (Ev.val rfl)
 simp only [if_neg c]
 by_cases z : (s.length : Int) = 0
 ·refine ⟨0, ?_, Int.le_refl 0, .inl (by omega)⟩
  have z' : ((s.length : Int) == 0) = true := beq_iff_eq.2 z
  exact Ev.step (fun k => by simp only [spec_l6Rd_pick.j0, z', if_true] <;> exact rfl) (Ev.val rfl)
 have z' : ((s.length : Int) == 0) = false := beq_eq_false_iff_ne.2 z
 have zp : (0 : Int) < s.length := by omega
 have e1 : wrap64 (p + 1 - 1) = p := by rw [w64 (by omega) (by omega)]; omega
 have n0 : ¬ n = 0 := by omega
 by_cases d : p < (s.length : Int)
 ·have hb := rd_byte hs p
  have t := tmod_nn hb.1 (b := n) (by omega)
  refine ⟨Int.tmod (rd s p) n, ?_, t.1, .inl t.2⟩
  refine Ev.step (fun k => by simp only [spec_l6Rd_pick.j0, z', Bool.false_eq_true, if_false, e1, if_pos d, if_pos h0, if_neg n0, w64 (x := rd s p) (by omega) (by omega)] <;> exact rfl) (Ev.val rfl)
 ·have t1 := tmod_nn h0 zp
  have w1 : wrap64 (p * 7) = p * 7 := w64 (by omega) (by omega)
  have w2 : wrap64 (p * 7 + 3) = p * 7 + 3 := w64 (by omega) (by omega)
  have t2 := tmod_nn (a := p * 7 + 3) (by omega) zp
  have b1 := rd_byte hs (Int.tmod p (s.length : Int))
  have b2 := rd_byte hs (Int.tmod (p * 7 + 3) (s.length : Int))
  have q := tdiv_nn h0 (b := (s.length : Int)) (by omega)
  generalize hu : rd s (Int.tmod p (s.length : Int)) = u at b1
  generalize hv : rd s (Int.tmod (p * 7 + 3) (s.length : Int)) = v at b2
  generalize hy : Int.tdiv p (s.length : Int) = y at q
  have hx0 : 0 ≤ u * 131 + v * 1117 + p * 29 + y * 53 := by omega
  have hx1 : u * 131 + v * 1117 + p * 29 + y * 53 < 100000000 := by omega
  have q2 := tdiv_nn hx0 (b := 64) (by omega)
  have w3 : wrap64 (wrap64 (wrap64 (wrap64 (wrap64 u * 131) + wrap64 (wrap64 v * 1117)) + wrap64 (p * 29)) + wrap64 (wrap64 y * 53)) = u * 131 + v * 1117 + p * 29 + y * 53 := by
   rw [w64 (x := u) (by omega) (by omega), w64 (x := v) (by omega) (by omega), w64 (x := y) (by omega) (by omega), w64 (x := u * 131) (by omega) (by omega), w64 (x := v * 1117) (by omega) (by omega), w64 (x := y * 53) (by omega) (by omega), w64 (x := p * 29) (by omega) (by omega), w64 (x := u * 131 + v * 1117) (by omega) (by omega), w64 (x := u * 131 + v * 1117 + p * 29) (by omega) (by omega), w64 (by omega) (by omega)]
  have w4 : wrap64 (Int.tdiv (u * 131 + v * 1117 + p * 29 + y * 53) 64) = Int.tdiv (u * 131 + v * 1117 + p * 29 + y * 53) 64 := w64 (by omega) (by omega)
  generalize hX : u * 131 + v * 1117 + p * 29 + y * 53 = X at *
  have x0 := xor_nn hx0 (by omega) q2.1 (by omega)
  have t := tmod_nn x0 (b := n) (by omega)
  refine ⟨Int.tmod (Go.bits .xor .i64 X (Int.tdiv X 64)) n, ?_, t.1, .inl t.2⟩
  refine Ev.step (fun k => by simp only [spec_l6Rd_pick.j0, z', Bool.false_eq_true, if_false, e1, if_neg d, if_neg z, w1, w2, if_pos t1.1, if_pos t1.2, if_pos t2.1, if_pos t2.2, if_neg n0, hu, hv, hy, w3, w4] <;> exact rfl) (Ev.val rfl)
end Go.Proofs.YtbpkngahnmoocaaDoor.P

namespace Go.Proofs.YtbpkngahnmoocaaDoor.P
open Go.RowKit Go.Proofs.YtbpkngahnmoocaaDoorW.PrintWords Go.Proofs.YtbpkngahnmoocaaDoor.G
theorem dsay_l0 (s : List Int) (hs : octs s) (hl : s.length ≤ 2000) : ∀ (d : Nat) (p : Int) (x : List Int), d ≤ 10 → 0 ≤ p → p + d ≤ 1000 → x.length + d ≤ 20 → (∀ y ∈ x, isInt y) →
  ∃ r, Ev (fun k => spec_DrawLiveSay.l0 k x (d : Int) s p) r ∧ r.length ≤ 20 ∧ ∀ y ∈ r, isInt y := by
 intro d
 induction d with
 | zero =>
  intro p x _ h0 h1 hx hi
  have c : ¬ ((0 : Nat) : Int) > 0 := by omega
  exact ⟨x, Ev.step (fun k => by simp only [spec_DrawLiveSay.l0, if_neg c] <;> exact rfl) (Ev.val rfl), by omega, hi⟩
 | succ d ih =>
  intro p x hd h0 h1 hx hi
  obtain ⟨v, v1, v2, v3⟩ := pick_ev s hs hl p 6 h0 (by omega)
  have c : ((d + 1 : Nat) : Int) > 0 := by omega
  have w : wrap64 (((d + 1 : Nat) : Int) - 1) = (d : Int) := by rw [w64 (by omega) (by omega)]; omega
  have l6 : v < (([0, 1, 7, 10, 123, -1] : List Int).length : Int) := by simp; omega
  have xl : x.length < 17592186044416 := by omega
  have hv : isInt (rd [0, 1, 7, 10, 123, -1] v) := by
   have : v = 0 ∨ v = 1 ∨ v = 2 ∨ v = 3 ∨ v = 4 ∨ v = 5 := by omega
   unfold isInt
   rcases this with rfl | rfl | rfl | rfl | rfl | rfl <;> simp [rd]
  obtain ⟨r, r1, r2, r3⟩ := ih (p + 1) (x ++ [rd [0, 1, 7, 10, 123, -1] v]) (by omega) (by omega) (by omega) (by simp; omega) (fun y hy => by
   rcases List.mem_append.1 hy with hy | hy
   ·exact hi y hy
   ·rw [List.mem_singleton] at hy; subst hy; exact hv)
  refine ⟨r, Ev.step (fun k => by simp only [spec_DrawLiveSay.l0, if_pos c, Option.bind_some] <;> exact rfl) ?_, r2, r3⟩
  refine Ev.bind v1 ?_
  simp only [if_pos v2, if_pos l6, if_pos xl, w]
  exact r1
theorem drawLiveSay_ev (l : List Int) (h : octs l) : ∃ r, Ev (fun k => spec_DrawLiveSay.f k l) r ∧ r.length ≤ 20 ∧ ∀ y ∈ r, isInt y := by
 obtain ⟨s, o1, o2, o3⟩ := open_eq l h
 obtain ⟨v, v1, v2, v3⟩ := pick_ev s o2 o3 0 6 (by omega) (by omega)
 obtain ⟨r, r1, r2, r3⟩ := dsay_l0 s o2 o3 v.toNat (0 + 1) [] (by omega) (by omega) (by omega) (by simp; omega) (by simp)
 refine ⟨r, ?_, r2, r3⟩
 unfold spec_DrawLiveSay.f
 simp only [o1, Option.bind_some]
 refine Ev.bind v1 ?_
 rw [show ((v.toNat : Nat) : Int) = v by omega] at r1
 exact r1
theorem FnLiveSay_pure (l m : List Int) (_hl : l.length ≤ 9223372036854775807) (h : ∀ x ∈ l, 0 ≤ x ∧ x ≤ 255) (_hm : m.length ≤ 9223372036854775807) (_h2 : ∀ x ∈ m, 0 ≤ x ∧ x ≤ 255) : ∃ k, laws_FnLiveSay.f k l m = some true := by
 refine Ev.rounds ?_
 unfold laws_FnLiveSay.f
 have stop : Ev (fun k => laws_FnLiveSay.j0 k l m true) true := Ev.step (fun k => by simp only [laws_FnLiveSay.j0, if_true] <;> exact rfl) (Ev.val rfl)
 by_cases d : (l.length : Int) > 1048576
 ·simp only [if_pos d]; exact stop
 simp only [if_neg d]
 by_cases d2 : (m.length : Int) > 1048576
 ·rw [decide_eq_true d2]; exact stop
 rw [decide_eq_false d2]
 refine Ev.step (fun k => by simp only [laws_FnLiveSay.j0, Bool.false_eq_true, if_false] <;> exact rfl) ?_
 obtain ⟨r, r1, r2, r3⟩ := drawLiveSay_ev l h
 have rL : (r.length : Int) ≤ 1048576 := by omega
 have w : wrap64 ((r.length : Int) + 1) = (r.length : Int) + 1 := w64 (by omega) (by omega)
 have z : ¬ (r.length : Int) + 1 = 0 := by omega
 have i0 : 0 ≤ (m.length : Int) % ((r.length : Int) + 1) := Int.emod_nonneg _ (by omega)
 have i1 : (m.length : Int) % ((r.length : Int) + 1) < (r.length : Int) + 1 := Int.emod_lt_of_pos _ (by omega)
 refine Ev.bind r1 ?_
 refine Ev.bind (sayI_ev r r3 rL) ?_
 simp only [w, if_neg z]
 refine Ev.bind (sayS_ev r r3 rL) ?_
 generalize (m.length : Int) % ((r.length : Int) + 1) = i at i0 i1
 have i2 : i ≤ (r.length : Int) := by omega
 simp only [if_true, if_pos i0, if_pos i2]
 refine Ev.bind (sayI_ev _ (fun x hx => r3 x (List.mem_of_mem_take hx)) (by rw [List.length_take]; omega)) ?_
 refine Ev.bind (sayI_ev _ (fun x hx => r3 x (List.mem_of_mem_drop hx)) (by rw [List.length_drop]; omega)) ?_
 have e : sayB (r.take i.toNat) ++ sayB (r.drop i.toNat) = sayB r := by rw [← sayB_app, List.take_append_drop]
 have sz : (sayB (r.take i.toNat)).size + (sayB (r.drop i.toNat)).size ≤ 9223372036854775807 := by
  rw [← size_app, e]
  have := sayB_size r r3
  omega
 simp only [if_pos sz, e]
 exact Ev.val (by simp)
end Go.Proofs.YtbpkngahnmoocaaDoor.P

namespace Go.Proofs.YtbpkngahnmoocaaDoor.P
open Go.RowKit Go.Proofs.YtbpkngahnmoocaaDoorW.PrintWords Go.ChangeShapes Go.WideShapes Go.Deep

theorem read_ints {H : Type} {enc : TypeId × Value → H} {Pr : Program} {t e : TypeId} {k : IntKind} (ht : Pr.underlying t = some (.slice e)) (he : Pr.underlying e = some (.int k)) (hc : Pr.cellsOf e = 1) {w : World} {base : Nat} {spare : Nat → Bool} {held : Bool} {fuel : Nat} {cs : List Value} {x : DataW H × List MemPlace}
  (h : DataW.trod enc Pr w base spare held fuel t cs = some x) :
  ∃ (A : Option Addr) (c : Nat) (l : List Int), cs = [.slice A l.length c] ∧ l.length ≤ c ∧ Kd.C (Kd.int k) w A l.length l ∧ ∀ n ∈ l, (Lit.int k n).wf = true := by
 rcases open_slice1 ht hc h with ⟨rfl, _⟩ | ⟨a, len, cap, m, n, V, D, Pl, rfl, hb, hl, hm, hmm, hx, hi⟩
 ·exact ⟨none, 0, [], rfl, Nat.le_refl _, ⟨rfl, by simp, fun h => by simp at h⟩, fun t ht => by simp at ht⟩
 ·have hlm : len ≤ m := by rw [hmm]; split <;> omega
  have key : ∀ i, i < len → ∃ z : Int, w.cell? (a.add i) = some (.int k z) ∧ (Lit.int k z).wf = true := by
   intro i hil
   obtain ⟨h0, r0⟩ := hi i (by omega)
   obtain ⟨n0, e0, _, w0⟩ := DataW.trod_int he r0
   simp only [List.cons.injEq, and_true] at e0
   exact ⟨n0, by rw [h0, e0], w0⟩
  obtain ⟨f, hf⟩ := choose_lt key
  refine ⟨some a, cap, (List.range len).map f, by simp, by simpa using hl, ⟨by simp, ?_, fun _ => ⟨a, rfl, fun j p hj => ?_⟩⟩, fun t ht => ?_⟩
  ·unfold maxLen at hm; simp; omega
  ·obtain ⟨hj1, hj2⟩ := List.getElem?_eq_some_iff.1 hj
   simp at hj1 hj2
   subst hj2
   refine ⟨[.int k (f j)], rfl, rfl, fun i u hu => ?_⟩
   match i, hu with
   | 0, hu =>
    simp at hu; subst hu
    have : j * (Kd.int k).sz + 0 = j := Nat.mul_one j
    rw [this]
    exact (hf j hj1).1
  ·simp at ht
   obtain ⟨i, hil, rfl⟩ := ht
   exact (hf i hil).2
end Go.Proofs.YtbpkngahnmoocaaDoor.P

namespace Go.Proofs.YtbpkngahnmoocaaDoor.P
open Go.RowKit Go.ChangeShapes Go.WideShapes Go.ChangeAt
abbrev laidAll : List (String × DataW Unit) := [("math/bits.deBruijn32tab", Rows.laid_math_bits_deBruijn32tab), ("math/bits.deBruijn64tab", Rows.laid_math_bits_deBruijn64tab), ("internal/strconv.uint64pow10", Rows.laid_internal_strconv_uint64pow10)]
theorem gNamed : Tryd.prog.globalNamed "internal/strconv.uint64pow10" = some 0 := by kernel_rfl
theorem gType : (Tryd.prog.globals[0]?).map (·.type) = some 44 := by kernel_rfl
theorem lay_of {W : World} (h : laidMetH Tryd.prog laidAll W) : TabP W := by
 rw [MakeChecks.laidMetH_plain _ _ _ (by kernel_rfl)] at h
 exact Lib.tabIs_of_head gNamed gType Tryd.underlying44 Tryd.underlying38 (by kernel_rfl) (by kernel_rfl) (laidMet.tail (laidMet.tail h))
theorem door_met (os : Os) (args : Array Value) : laidMetH Tryd.prog laidAll ((World.doorLaid Tryd.prog 40 os).forCall (fun _ _ => 0) ⟨#[], args, []⟩).memory :=
 laidMetH_of_parts3 (fuel := 8) (laidMet_of_run' 8 (by kernel_rfl) (by kernel_rfl)) (by kernel_rfl) (by kernel_rfl)
end Go.Proofs.YtbpkngahnmoocaaDoor.P
