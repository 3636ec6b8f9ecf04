/- Tables of what is known of functions, and summaries off bodies. -/
import Derived.Test.YtgcbgenkbdoejaaSxQ
namespace Sx
open Go

variable {P : Program}

def Table.none : Table := fun _ => Option.none
def Table.add (T : Table) (f : FuncId) (e : Entry) : Table := fun g => if Nat.beq g f then some e else T g
def EntryOK (P : Program) (f : FuncId) (e : Entry) : Prop := match e with
  | .go s => SummOK P f s
  | .call s => CallOK P f s
  | .ext s => ExtOK P f s
theorem none_ok : TableOK P Table.none := fun f e h => by cases h
theorem add_ok {T : Table} {f : FuncId} {e : Entry} (hT : TableOK P T) (h : EntryOK P f e) : TableOK P (T.add f e) := fun g e' hg => by
  unfold Table.add at hg
  split at hg
  · rename_i hb
    have := Nat.eq_of_beq_eq_true hb; subst this
    injection hg with hg; subst hg
    exact h
  · exact hT g e' hg

def noAn : Nat → Option Ann := fun _ => Option.none
def An1 (id : Nat) (A : Ann) : Nat → Option Ann := fun k => if Nat.beq k id then some A else Option.none
def An2 (id : Nat) (A : Ann) (id2 : Nat) (B : Ann) : Nat → Option Ann := fun k => if Nat.beq k id then some A else if Nat.beq k id2 then some B else Option.none
def An3 (id : Nat) (A : Ann) (id2 : Nat) (B : Ann) (id3 : Nat) (C : Ann) : Nat → Option Ann := fun k => if Nat.beq k id then some A else if Nat.beq k id2 then some B else if Nat.beq k id3 then some C else Option.none

/-- A summary in closed form, off the body. -/
theorem summ_of_body {T : Table} {f : FuncId} {fn : Func} {c : Code} {s : Summ} (hT : TableOK P T) (hf : P.funcs[f]? = some fn) (hb : fn.body = some c) (hname : (fn.name == "runtime.NumGoroutine") = false)
    (h : ∀ args H Q, (s args H).Leads Q → ∃ An, (bodySumm T P fn An args H).Leads Q) : SummOK P f s := by
  refine ⟨(bodySumm_sound (An := noAn) hT hf hb hname).1, fun E ρ args H w vs Q hs ha hl => ?_⟩
  obtain ⟨An, hl⟩ := h args H Q hl
  exact (bodySumm_sound (An := An) hT hf hb hname).2 E ρ args H w vs Q hs ha hl
end Sx
