/- The plain parts of one law's proof, one behind the other: of no condition of their own. -/
import Derived.Test.YtbpkngahnmoocaaDoorGa
import Derived.Test.YtbpkngahnmoocaaDoorItx
import Derived.Lib.ItoaLen
import Derived.Test.YtbpkngahnmoocaaDoorF1
import Derived.Test.YtbpkngahnmoocaaDoorF2
import Derived.Test.YtbpkngahnmoocaaDoorF3
import Derived.Test.YtbpkngahnmoocaaDoorF4
import Derived.Test.YtbpkngahnmoocaaDoorV
import Derived.Deep.Slices
import Derived.ProofKit
import Derived.Test.YtbpkngahnmoocaaDoorRows
import Derived.Test.YtbpkngahnmoocaaDoorProg
import Derived.LaidMore
import Derived.LaidHandle
import Derived.OpenShut
import Derived.Lib.LaidTab
import Derived.Stop.LaidErr
import Derived.Stop.Joined
set_option linter.unusedSimpArgs false
set_option linter.unusedVariables false
namespace Go.Proofs.YtbpkngahnmoocaaDoor.G
open Go.RowKit Go.Proofs.YtbpkngahnmoocaaDoorW.PrintWords

abbrev big : Int := 4611686018427387904

theorem w64 {x : Int} (h0 : -9223372036854775808 ≤ x) (h1 : x ≤ 9223372036854775807) : wrap64 x = x := by
 unfold wrap64
 omega
theorem lt_mid {α : Type} (pre : List α) (t : α) (suf : List α) : (pre.length : Int) < ((pre ++ t :: suf).length : Int) := by
 simp; omega
theorem nlt_end {α : Type} (pre : List α) : ¬ (pre.length : Int) < ((pre ++ []).length : Int) := by
 simp
theorem nn (n : Nat) : 0 ≤ (n : Int) := Int.natCast_nonneg n
theorem nn0 (n : Nat) : (0 ≤ (n : Int)) = True := eq_true (nn n)
theorem app_one {α : Type} (pre : List α) (t : α) (suf : List α) : pre ++ t :: suf = (pre ++ [t]) ++ suf := by simp
theorem w_succ {α : Type} {pre : List α} {t : α} (h : (pre.length : Int) < big) : wrap64 ((pre.length : Int) + 1) = ((pre ++ [t]).length : Int) := by
 rw [w64 (by omega) (by unfold big at h; omega)]; simp
theorem getD_mid {α : Type} (pre : List α) (t : α) (suf : List α) (d : α) : (pre ++ t :: suf).getD ((pre.length : Int)).toNat d = t := by
 simp [List.getD]
theorem rd_mid (pre : List Int) (t : Int) (suf : List Int) : rd (pre ++ t :: suf) (pre.length : Int) = t := by
 unfold rd; exact getD_mid pre t suf 0
theorem rdOf_mid {α : Type} (d : α) (pre : List α) (t : α) (suf : List α) : rdOf d (pre ++ t :: suf) (pre.length : Int) = t := by
 unfold rdOf; exact getD_mid pre t suf d
theorem len_mid {α : Type} {pre : List α} {t : α} {suf : List α} (h : ((pre ++ t :: suf).length : Int) < big) : (pre.length : Int) < big := by
 simp at h; unfold big at *; omega
theorem len_app {α : Type} {pre : List α} {t : α} {suf : List α} (h : ((pre ++ t :: suf).length : Int) < big) : (((pre ++ [t]) ++ suf).length : Int) < big := by
 rw [← app_one]; exact h

theorem Ev.const {α β : Type} {a : Option α} {f : Nat → α → Option β} {x : α} {r : β} (h : a = some x) (k : Ev (fun n => f n x) r) : Ev (fun n => a.bind (f n)) r := by
 subst h; exact k
theorem Ev.val {α : Type} {a : Option α} {r : α} (h : a = some r) : Ev (fun _ => a) r := ⟨0, fun _ _ => h⟩
theorem Ev.eq {α : Type} {g : Nat → Option α} {r s : α} (h : Ev g r) (e : r = s) : Ev g s := e ▸ h
theorem Ev.unique {α : Type} {g : Nat → Option α} {r s : α} (h : Ev g r) (k : Ev g s) : r = s := by
 obtain ⟨K, h⟩ := h
 obtain ⟨L, k⟩ := k
 have := (h (max K L) (by omega)).symm.trans (k (max K L) (by omega))
 injection this

def tlt (s t : Tie) : Prop := s.f0 < t.f0 ∨ s.f0 = t.f0 ∧ s.f1 < t.f1
instance (s t : Tie) : Decidable (tlt s t) := by unfold tlt; infer_instance
def inr (n : Int) (t : Tie) : Prop := 0 ≤ t.f0 ∧ t.f0 < t.f1 ∧ t.f1 < n
instance (n : Int) (t : Tie) : Decidable (inr n t) := by unfold inr; infer_instance
def asc : List Tie → Prop
 | [] => True
 | [_] => True
 | a :: b :: r => tlt a b ∧ asc (b :: r)
instance asc_dec : (l : List Tie) → Decidable (asc l)
 | [] => isTrue trivial
 | [_] => isTrue trivial
 | a :: b :: r => by
  have := asc_dec (b :: r)
  unfold asc
  infer_instance
def ok (n : Int) (E : List Tie) : Prop := 0 ≤ n ∧ n ≤ 8 ∧ (∀ t ∈ E, inr n t) ∧ asc E
instance (n : Int) (E : List Tie) : Decidable (ok n E) := by unfold ok; infer_instance

theorem tlt_trans {a b c : Tie} (h : tlt a b) (k : tlt b c) : tlt a c := by
 unfold tlt at *; omega
theorem tlt_irrefl (a : Tie) : ¬ tlt a a := by unfold tlt; omega
theorem tlt_asymm {a b : Tie} (h : tlt a b) : ¬ tlt b a := by unfold tlt at *; omega
theorem tlt_tri (a b : Tie) : tlt a b ∨ a = b ∨ tlt b a := by
 obtain ⟨a0, a1⟩ := a
 obtain ⟨b0, b1⟩ := b
 unfold tlt
 simp only [Tie.mk.injEq]
 omega
theorem asc_cons {a : Tie} {l : List Tie} : asc (a :: l) ↔ (∀ t ∈ l, tlt a t) ∧ asc l := by
 induction l generalizing a with
 | nil => simp [asc]
 | cons b r ih =>
  constructor
  ·intro h
   obtain ⟨h1, h2⟩ := h
   refine ⟨fun t ht => ?_, h2⟩
   rcases List.mem_cons.1 ht with rfl | ht
   ·exact h1
   ·exact tlt_trans h1 ((ih.1 h2).1 t ht)
  ·rintro ⟨h1, h2⟩
   exact ⟨h1 b (List.mem_cons_self), h2⟩
theorem asc_pairwise {l : List Tie} : asc l ↔ l.Pairwise tlt := by
 induction l with
 | nil => simp [asc]
 | cons a l ih => rw [asc_cons, List.pairwise_cons, ih]
theorem asc_nodup {l : List Tie} (h : asc l) : l.Nodup := by
 rw [asc_pairwise] at h
 exact h.imp (fun {a b} hab e => by subst e; exact tlt_irrefl a hab)
theorem asc_sublist {l m : List Tie} (h : asc m) (s : l.Sublist m) : asc l := by
 rw [asc_pairwise] at *; exact h.sublist s
theorem asc_filter {l : List Tie} (p : Tie → Bool) (h : asc l) : asc (l.filter p) := asc_sublist h List.filter_sublist
theorem ok_filter {n : Int} {E : List Tie} (p : Tie → Bool) (h : ok n E) : ok n (E.filter p) :=
 ⟨h.1, h.2.1, fun t ht => h.2.2.1 t (List.mem_filter.1 ht).1, asc_filter p h.2.2.2⟩
theorem ok_sublist {n : Int} {E F : List Tie} (h : ok n E) (s : F.Sublist E) : ok n F :=
 ⟨h.1, h.2.1, fun t ht => h.2.2.1 t (s.subset ht), asc_sublist h.2.2.2 s⟩
theorem asc_len {l : List Tie} (lo : Int) (hl : ∀ t ∈ l, 0 ≤ t.f0 ∧ t.f0 < 8 ∧ 0 ≤ t.f1 ∧ t.f1 < 8) (h : asc l) (hlo : ∀ t ∈ l, lo ≤ t.f0 * 8 + t.f1) (h64 : lo ≤ 64) : (l.length : Int) ≤ 64 - lo := by
 induction l generalizing lo with
 | nil => simp; omega
 | cons a r ih =>
  obtain ⟨h1, h2⟩ := asc_cons.1 h
  have ha := hlo a (List.mem_cons_self)
  have hb := hl a (List.mem_cons_self)
  have := ih (a.f0 * 8 + a.f1 + 1) (fun t ht => hl t (List.mem_cons_of_mem _ ht)) h2 (fun t ht => by
   have := h1 t ht
   have hc := hl t (List.mem_cons_of_mem _ ht)
   unfold tlt at this; omega) (by omega)
  simp only [List.length_cons]
  omega
theorem ok_len {n : Int} {E : List Tie} (h : ok n E) : (E.length : Int) ≤ 64 := by
 have := asc_len (l := E) 0 (fun t ht => by have := h.2.2.1 t ht; have := h.2.1; unfold inr at *; omega) h.2.2.2 (fun t ht => by have := h.2.2.1 t ht; unfold inr at this; omega) (by omega)
 omega

end Go.Proofs.YtbpkngahnmoocaaDoor.G

namespace Go.Proofs.YtbpkngahnmoocaaDoor.P
open Go.RowKit Go.Proofs.YtbpkngahnmoocaaDoorW.PrintWords Go.Proofs.YtbpkngahnmoocaaDoor.G
def isInt (n : Int) : Prop := -9223372036854775808 ≤ n ∧ n ≤ 9223372036854775807
theorem decB_size {n : Int} (h : isInt n) : (decB n).size ≤ 21 := by
 have := Lib.itoa_length_le n h.1 h.2
 simpa [decB, ByteArray.size] using this
def sayB : List Int → ByteArray
 | [] => ⟨#[]⟩
 | x :: r => ((⟨#[32]⟩ : ByteArray) ++ decB x) ++ sayB r
theorem empty_app (b : ByteArray) : (⟨#[]⟩ : ByteArray) ++ b = b := ByteArray.empty_append
theorem app_empty (b : ByteArray) : b ++ (⟨#[]⟩ : ByteArray) = b := ByteArray.append_empty
theorem sayB_app : ∀ a b : List Int, sayB (a ++ b) = sayB a ++ sayB b
 | [], b => by rw [List.nil_append, sayB, empty_app]
 | x :: a, b => by
  rw [List.cons_append, sayB, sayB, sayB_app a b]
  simp only [ByteArray.append_assoc]
theorem size_app (a b : ByteArray) : (a ++ b).size = a.size + b.size := ByteArray.size_append
theorem sayB_size : ∀ l : List Int, (∀ x ∈ l, isInt x) → (sayB l).size ≤ 22 * l.length
 | [], _ => by simp [sayB, ByteArray.size]
 | x :: r, h => by
  have a := sayB_size r (fun y hy => h y (by simp [hy]))
  have b := decB_size (h x (by simp))
  have c : (⟨#[32]⟩ : ByteArray).size = 1 := rfl
  rw [sayB, size_app, size_app, c, List.length_cons]
  omega
theorem sayI_l0 : ∀ (suf p : List Int) (out : ByteArray), (∀ x ∈ suf, isInt x) → ((p ++ suf).length : Int) ≤ 1048576 → out.size ≤ 22 * p.length →
  Ev (fun k => impl_LiveSay.l0 k out (p ++ suf) ((p ++ suf).length : Int) (p.length : Int)) (out ++ sayB suf) := by
 intro suf
 induction suf with
 | nil =>
  intro p out _ _ _
  refine Ev.step (fun k => by simp only [impl_LiveSay.l0, nlt_end, if_false] <;> exact rfl) (Ev.val ?_)
  rw [sayB, app_empty]
 | cons t suf ih =>
  intro p out h hb ho
  have hl : (p ++ t :: suf).length = p.length + (suf.length + 1) := by simp
  have ht := h t (by simp)
  have hd := decB_size ht
  have hp : (p.length : Int) < big := by unfold big; omega
  have c1 : 1 + (decB t).size ≤ 9223372036854775807 := by omega
  have s1 : (⟨#[32]⟩ : ByteArray).size = 1 := rfl
  have sz : ((⟨#[32]⟩ : ByteArray) ++ decB t).size = 1 + (decB t).size := by rw [size_app, s1]
  have c2 : out.size + ((⟨#[32]⟩ : ByteArray) ++ decB t).size ≤ 9223372036854775807 := by rw [sz]; omega
  have it : strconv_Itoa.f t = some (decB t) := by unfold strconv_Itoa.f; rw [if_pos ht.1, if_pos ht.2]
  refine Ev.step (fun k => by simp only [impl_LiveSay.l0, lt_mid, nn, if_true, rd_mid, it, Option.bind_some, if_pos c1, if_pos c2, w_succ (t := t) hp] <;> exact rfl) ?_
  rw [app_one p t suf]
  refine Ev.eq (ih (p ++ [t]) (out ++ ((⟨#[32]⟩ : ByteArray) ++ decB t)) (fun x hx => h x (by simp [hx])) (by rw [← app_one]; exact hb) (by rw [size_app, sz, List.length_append, List.length_singleton]; omega)) ?_
  rw [sayB, ByteArray.append_assoc]
theorem sayI_ev (l : List Int) (h : ∀ x ∈ l, isInt x) (hl : (l.length : Int) ≤ 1048576) : Ev (fun k => impl_LiveSay.f k l) (sayB l) := by
 unfold impl_LiveSay.f
 refine Ev.eq (sayI_l0 l [] ⟨#[]⟩ h hl (by simp [ByteArray.size])) (empty_app _)
theorem bytes_one (x : Int) (h0 : 0 ≤ x) (h1 : x < 256) : strOfNums [x] = ⟨#[UInt8.ofNat x.toNat]⟩ := by
 unfold strOfNums
 simp
theorem dec_ev : ∀ (m : Nat) (n : Int), 0 ≤ n → n ≤ 9223372036854775807 → n.toNat ≤ m → Ev (fun k => spec_l6Dec.f k n) (⟨(Lib.decDigits n.toNat).toArray⟩ : ByteArray) := by
 intro m
 induction m using Nat.strongRecOn with
 | _ m ih =>
  intro n h0 h1 hm
  have c1 : ¬ n < -9223372036854775807 := by omega
  have c2 : ¬ n < 0 := by omega
  by_cases c : n < 10
  ·have w : wrap64 (48 + n) % 256 = 48 + n := by rw [w64 (by omega) (by omega)]; omega
   refine Ev.step (fun k => by simp only [spec_l6Dec.f, if_neg c1, if_neg c2, if_pos c, w] <;> exact rfl) (Ev.val ?_)
   rw [Lib.decDigits_one (show n.toNat < 10 by omega), bytes_one _ (by omega) (by omega), show (48 + n).toNat = 48 + n.toNat by omega]
  ·have t1 : Int.tdiv n 10 = n / 10 := Int.tdiv_eq_ediv_of_nonneg h0
   have t2 : Int.tmod n 10 = n % 10 := Int.tmod_eq_emod_of_nonneg h0
   have w1 : wrap64 (Int.tdiv n 10) = n / 10 := by rw [t1]; exact w64 (by omega) (by omega)
   have w2 : wrap64 (48 + Int.tmod n 10) % 256 = 48 + n % 10 := by rw [t2, w64 (by omega) (by omega)]; omega
   have g := ih (n / 10).toNat (by omega) (n / 10) (by omega) (by omega) (Nat.le_refl _)
   have e10 : (n / 10).toNat = n.toNat / 10 := by omega
   have ed : Lib.decDigits n.toNat = Lib.decDigits (n.toNat / 10) ++ [UInt8.ofNat (48 + n.toNat % 10)] := by rw [Lib.decDigits, dif_neg (by omega)]
   have eb : strOfNums [48 + n % 10] = ⟨#[UInt8.ofNat (48 + n.toNat % 10)]⟩ := by rw [bytes_one _ (by omega) (by omega), show (48 + n % 10).toNat = 48 + n.toNat % 10 by omega]
   refine Ev.step (fun k => by simp only [spec_l6Dec.f, if_neg c1, if_neg c2, if_neg c, w1, w2, Option.bind_some, eb] <;> exact rfl) ?_
   refine Ev.bind g ?_
   have sz : (⟨(Lib.decDigits (n / 10).toNat).toArray⟩ : ByteArray).size + (⟨#[UInt8.ofNat (48 + n.toNat % 10)]⟩ : ByteArray).size ≤ 9223372036854775807 := by
    have := decB_size (n := n / 10) ⟨by omega, by omega⟩
    have e : decB (n / 10) = ⟨(Lib.decDigits (n / 10).toNat).toArray⟩ := by unfold decB Lib.itoa; rw [if_neg (by omega)]
    rw [e] at this
    have s1 : (⟨#[UInt8.ofNat (48 + n.toNat % 10)]⟩ : ByteArray).size = 1 := rfl
    omega
   simp only [if_pos sz]
   refine Ev.val ?_
   rw [ed, e10]
   exact congrArg some (ByteArray.ext (by simp))
theorem decS_ev (n : Int) (h : isInt n) : Ev (fun k => spec_l6Dec.f k n) (decB n) := by
 obtain ⟨h0, h1⟩ := h
 by_cases c : n < -9223372036854775807
 ·have e : n = -9223372036854775808 := by omega
  subst e
  refine Ev.step (fun k => by simp only [spec_l6Dec.f, if_pos c] <;> exact rfl) (Ev.val ?_)
  simp [decB, Lib.itoa, Lib.decDigits]
 ·by_cases d : n < 0
  ·have w : wrap64 (-n) = -n := w64 (by omega) (by omega)
   refine Ev.step (fun k => by simp only [spec_l6Dec.f, if_neg c, if_pos d, w] <;> exact rfl) ?_
   refine Ev.bind (dec_ev _ (-n) (by omega) (by omega) (Nat.le_refl _)) ?_
   have e : decB n = (⟨#[45]⟩ : ByteArray) ++ ⟨(Lib.decDigits (-n).toNat).toArray⟩ := by
    unfold decB Lib.itoa
    rw [if_pos d, show n.natAbs = (-n).toNat by omega]
    apply ByteArray.ext
    simp
   have sz : 1 + (⟨(Lib.decDigits (-n).toNat).toArray⟩ : ByteArray).size ≤ 9223372036854775807 := by
    have := decB_size (n := n) ⟨h0, h1⟩
    rw [e, size_app] at this
    have s1 : (⟨#[45]⟩ : ByteArray).size = 1 := rfl
    omega
   simp only [if_pos sz]
   exact Ev.val (by rw [e])
  ·refine Ev.eq (dec_ev _ n (by omega) h1 (Nat.le_refl _)) ?_
   unfold decB Lib.itoa
   rw [if_neg d]
theorem sayS_l0 : ∀ (suf p : List Int) (out : ByteArray), (∀ x ∈ suf, isInt x) → ((p ++ suf).length : Int) ≤ 1048576 → out.size ≤ 22 * p.length →
  Ev (fun k => spec_LiveSay.l0 k (p ++ suf) out (p.length : Int)) (out ++ sayB suf) := by
 intro suf
 induction suf with
 | nil =>
  intro p out _ _ _
  refine Ev.step (fun k => by simp only [spec_LiveSay.l0, nlt_end, if_false] <;> exact rfl) (Ev.val ?_)
  rw [sayB, app_empty]
 | cons t suf ih =>
  intro p out h hb ho
  have hl : (p ++ t :: suf).length = p.length + (suf.length + 1) := by simp
  have ht := h t (by simp)
  have hd := decB_size ht
  have hp : (p.length : Int) < big := by unfold big; omega
  have s1 : (⟨#[32]⟩ : ByteArray).size = 1 := rfl
  have c1 : out.size + 1 ≤ 9223372036854775807 := by omega
  have so : (out ++ (⟨#[32]⟩ : ByteArray)).size = out.size + 1 := by rw [size_app, s1]
  have c2 : (out ++ (⟨#[32]⟩ : ByteArray)).size + (decB t).size ≤ 9223372036854775807 := by rw [so]; omega
  refine Ev.step (fun k => by simp only [spec_LiveSay.l0, lt_mid, nn, if_true, rd_mid, if_pos c1, w_succ (t := t) hp] <;> exact rfl) ?_
  refine Ev.bind (decS_ev t ht) ?_
  simp only [if_pos c2]
  rw [app_one p t suf]
  refine Ev.eq (ih (p ++ [t]) ((out ++ (⟨#[32]⟩ : ByteArray)) ++ decB t) (fun x hx => h x (by simp [hx])) (by rw [← app_one]; exact hb) (by rw [size_app, so, List.length_append, List.length_singleton]; omega)) ?_
  rw [sayB, ByteArray.append_assoc, ByteArray.append_assoc, ByteArray.append_assoc]
theorem sayS_ev (l : List Int) (h : ∀ x ∈ l, isInt x) (hl : (l.length : Int) ≤ 1048576) : Ev (fun k => spec_LiveSay.f k l) (sayB l) := by
 unfold spec_LiveSay.f
 refine Ev.eq (sayS_l0 l [] ⟨#[]⟩ h hl (by simp [ByteArray.size])) (empty_app _)
end Go.Proofs.YtbpkngahnmoocaaDoor.P

namespace Go.Proofs.YtbpkngahnmoocaaDoor.P
open Go.RowKit Go.Proofs.YtbpkngahnmoocaaDoorW.PrintWords Go.Proofs.YtbpkngahnmoocaaDoor.G
theorem eqIntS_l0 : ∀ (suf p1 p2 : List Int), p1.length = p2.length → ((p1 ++ suf).length : Int) < big →
  Ev (fun k => laws_eqIntS.l0 k (p1 ++ suf) (p2 ++ suf) (p1.length : Int)) true := by
 intro suf
 induction suf with
 | nil =>
  intro p1 p2 e hb
  refine Ev.step (fun k => by simp only [laws_eqIntS.l0, nlt_end, if_false] <;> exact rfl) ?_
  exact Ev.val rfl
 | cons t suf ih =>
  intro p1 p2 e hb
  have hp : (p1.length : Int) < big := len_mid hb
  have l2 : (p1.length : Int) < ((p2 ++ t :: suf).length : Int) := by rw [e]; exact lt_mid _ _ _
  have r2 : rd (p2 ++ t :: suf) (p1.length : Int) = t := by rw [e]; exact rd_mid _ _ _
  refine Ev.step (fun k => by simp only [laws_eqIntS.l0, lt_mid, nn, if_true, rd_mid, w_succ (t := t) hp, l2, r2] <;> exact rfl) ?_
  rw [app_one p1 t suf, app_one p2 t suf]
  exact ih (p1 ++ [t]) (p2 ++ [t]) (by simp [e]) (len_app hb)
theorem eqIntS_refl (l : List Int) (hb : (l.length : Int) < big) : Ev (fun k => laws_eqIntS.f k l l) true := by
 unfold laws_eqIntS.f
 simp only [if_true]
 exact eqIntS_l0 l [] [] rfl hb
end Go.Proofs.YtbpkngahnmoocaaDoor.P

namespace Go.Proofs.YtbpkngahnmoocaaDoor.P
open Go.RowKit Go.Proofs.YtbpkngahnmoocaaDoorW.PrintWords Go.Proofs.YtbpkngahnmoocaaDoor.G

theorem set_mid' {α : Type} (pre : List α) (z t : α) (suf : List α) : (pre ++ z :: suf).set ((pre.length : Int)).toNat t = (pre ++ [t]) ++ suf := by
 simp [List.set_append]
theorem toIntS_l0 : ∀ (suf pre : List Int), ((pre ++ suf).length : Int) < big →
  Ev (fun k => laws_toIntS.l0 k (pre ++ suf) (pre ++ List.replicate suf.length 0) (pre.length : Int)) (pre ++ suf) := by
 intro suf
 induction suf with
 | nil =>
  intro pre hb
  refine Ev.step (fun k => by simp only [laws_toIntS.l0, nlt_end, if_false] <;> exact rfl) ?_
  exact Ev.val (by simp)
 | cons t suf ih =>
  intro pre hb
  have hp : (pre.length : Int) < big := len_mid hb
  have l2 : (pre.length : Int) < ((pre ++ List.replicate (t :: suf).length (0 : Int)).length : Int) := by
   rw [List.length_append, List.length_replicate, List.length_cons]; omega
  refine Ev.step (fun k => by simp only [laws_toIntS.l0, lt_mid, nn, if_true, rd_mid, w_succ (t := t) hp, l2] <;> exact rfl) ?_
  have e : (pre ++ List.replicate (t :: suf).length (0 : Int)).set ((pre.length : Int)).toNat t = (pre ++ [t]) ++ List.replicate suf.length 0 := set_mid' pre _ t _
  rw [e, app_one pre t suf]
  exact ih (pre ++ [t]) (len_app hb)
theorem toIntS_ev (l : List Int) (hb : (l.length : Int) ≤ 1048576) : Ev (fun k => laws_toIntS.f k l) l := by
 unfold laws_toIntS.f
 have h1 : ((l.length : Int)).toNat ≤ 35184372088832 := by omega
 simp only [nn, if_true, h1, Int.toNat_natCast]
 have h2 : l.length ≤ 35184372088832 := by omega
 simp only [h2, if_true]
 exact toIntS_l0 l [] (by unfold big; simp; omega)
end Go.Proofs.YtbpkngahnmoocaaDoor.P

namespace Go.Proofs.YtbpkngahnmoocaaDoor.P
open Go.RowKit Go.Proofs.YtbpkngahnmoocaaDoorW.PrintWords Go.Proofs.YtbpkngahnmoocaaDoor.G
theorem FnExactLiveSay_pure (l : List Int) (_hl : l.length ≤ 9223372036854775807) (h : ∀ x ∈ l, -9223372036854775808 ≤ x ∧ x ≤ 9223372036854775807) : ∃ k, laws_FnExactLiveSay.f k l = some true := by
 refine Ev.rounds ?_
 unfold laws_FnExactLiveSay.f
 by_cases d : (l.length : Int) > 1048576
 ·simp only [if_pos d]; exact Ev.val rfl
 simp only [if_neg d]
 have hL : (l.length : Int) ≤ 1048576 := by omega
 refine Ev.bind (toIntS_ev l hL) ?_
 refine Ev.bind (sayS_ev l h hL) ?_
 refine Ev.bind (toIntS_ev l hL) ?_
 refine Ev.bind (sayI_ev l h hL) ?_
 simp only [if_true]
 refine Ev.bind (toIntS_ev l hL) ?_
 refine Ev.bind (eqIntS_refl l (by unfold big; omega)) ?_
 exact Ev.val rfl
end Go.Proofs.YtbpkngahnmoocaaDoor.P

namespace Go.Proofs.YtbpkngahnmoocaaDoor.P
open Go.RowKit Go.Proofs.YtbpkngahnmoocaaDoorW.PrintWords Go.ChangeShapes Go.WideShapes Go.Deep

theorem read_ints {H : Type} {enc : TypeId × Value → H} {Pr : Program} {t e : TypeId} {k : IntKind} (ht : Pr.underlying t = some (.slice e)) (he : Pr.underlying e = some (.int k)) (hc : Pr.cellsOf e = 1) {w : World} {base : Nat} {spare : Nat → Bool} {held : Bool} {fuel : Nat} {cs : List Value} {x : DataW H × List MemPlace}
  (h : DataW.trod enc Pr w base spare held fuel t cs = some x) :
  ∃ (A : Option Addr) (c : Nat) (l : List Int), cs = [.slice A l.length c] ∧ l.length ≤ c ∧ Kd.C (Kd.int k) w A l.length l ∧ ∀ n ∈ l, (Lit.int k n).wf = true := by
 rcases open_slice1 ht hc h with ⟨rfl, _⟩ | ⟨a, len, cap, m, n, V, D, Pl, rfl, hb, hl, hm, hmm, hx, hi⟩
 ·exact ⟨none, 0, [], rfl, Nat.le_refl _, ⟨rfl, by simp, fun h => by simp at h⟩, fun t ht => by simp at ht⟩
 ·have hlm : len ≤ m := by rw [hmm]; split <;> omega
  have key : ∀ i, i < len → ∃ z : Int, w.cell? (a.add i) = some (.int k z) ∧ (Lit.int k z).wf = true := by
   intro i hil
   obtain ⟨h0, r0⟩ := hi i (by omega)
   obtain ⟨n0, e0, _, w0⟩ := DataW.trod_int he r0
   simp only [List.cons.injEq, and_true] at e0
   exact ⟨n0, by rw [h0, e0], w0⟩
  obtain ⟨f, hf⟩ := choose_lt key
  refine ⟨some a, cap, (List.range len).map f, by simp, by simpa using hl, ⟨by simp, ?_, fun _ => ⟨a, rfl, fun j p hj => ?_⟩⟩, fun t ht => ?_⟩
  ·unfold maxLen at hm; simp; omega
  ·obtain ⟨hj1, hj2⟩ := List.getElem?_eq_some_iff.1 hj
   simp at hj1 hj2
   subst hj2
   refine ⟨[.int k (f j)], rfl, rfl, fun i u hu => ?_⟩
   match i, hu with
   | 0, hu =>
    simp at hu; subst hu
    have : j * (Kd.int k).sz + 0 = j := Nat.mul_one j
    rw [this]
    exact (hf j hj1).1
  ·simp at ht
   obtain ⟨i, hil, rfl⟩ := ht
   exact (hf i hil).2
end Go.Proofs.YtbpkngahnmoocaaDoor.P

namespace Go.Proofs.YtbpkngahnmoocaaDoor.P
open Go.RowKit Go.ChangeShapes Go.WideShapes Go.ChangeAt
abbrev laidAll : List (String × DataW Unit) := [("math/bits.deBruijn32tab", Rows.laid_math_bits_deBruijn32tab), ("math/bits.deBruijn64tab", Rows.laid_math_bits_deBruijn64tab), ("internal/strconv.uint64pow10", Rows.laid_internal_strconv_uint64pow10)]
theorem gNamed : Tryd.prog.globalNamed "internal/strconv.uint64pow10" = some 0 := by kernel_rfl
theorem gType : (Tryd.prog.globals[0]?).map (·.type) = some 44 := by kernel_rfl
theorem lay_of {W : World} (h : laidMetH Tryd.prog laidAll W) : TabP W := by
 rw [MakeChecks.laidMetH_plain _ _ _ (by kernel_rfl)] at h
 exact Lib.tabIs_of_head gNamed gType Tryd.underlying44 Tryd.underlying38 (by kernel_rfl) (by kernel_rfl) (laidMet.tail (laidMet.tail h))
theorem door_met (os : Os) (args : Array Value) : laidMetH Tryd.prog laidAll ((World.doorLaid Tryd.prog 40 os).forCall (fun _ _ => 0) ⟨#[], args, []⟩).memory :=
 laidMetH_of_parts3 (fuel := 8) (laidMet_of_run' 8 (by kernel_rfl) (by kernel_rfl)) (by kernel_rfl) (by kernel_rfl)
end Go.Proofs.YtbpkngahnmoocaaDoor.P
