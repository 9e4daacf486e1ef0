/-
  Plain tools of this repo: strings of bytes, maps.
-/
import Derived.Test.YtlekjgaedligdaaSA
namespace Bw
open Go Go.RowKit

variable {P : Program} {C : Ctx} {ops : Array Oper} {K : Post} {dr : Bool} {i t : Nat} {is : List Nat} {T : Tm} {H : Hp} {log : Log} {ty : TypeId} {ps : String} {af : Array Edge} {gd : Option (Nat × Bool)}

theorem G.readH0 {op : Op} {a : Option Addr} {cs : List Value} {v : Value} (hs : Has H a cs) (hnn : newOp op = false) (hw : wantT ops T ⟨some t, op, ty, ps, af, gd⟩ = some true) (hf : ∀ H', Has H' a cs → Fl P T H' ⟨some t, op, ty, ps, af, gd⟩ v)
    (next : RG false P C ops K is (upd T t v) H log) : RGo ⟨some t, op, ty, ps, af, gd⟩ false P C ops K i is T H log := by
  intro ho
  rcases hs with rfl | ⟨b, off, o, rfl, h2, h3⟩
  · exact fun hl => .pure _ v ho hw hnn (hf [] .nil) (next hl.tail)
  · exact RG.read _ v (b, o) ho hw hnn (hf _ (.inr ⟨b, off, o, rfl, List.mem_singleton.2 rfl, h3⟩)) h2 rfl next

theorem Has.loads {a : Addr} {cs : List Value} {w : World} (h : Has H (some a) cs) (hh : ∀ p ∈ H, Holds w p.1 p.2) : (loadCells a cs.length).run P w = .ok cs.toArray w := by
  refine run_loadCells_list w a cs fun j v hv => ?_
  rcases h with rfl | ⟨b, off, o, h1, h2, h3⟩
  · simp at hv
  · simp only [Option.some.injEq] at h1
    subst h1
    rw [add_some]
    exact (hh _ h2).cell (h3 j v hv)

def bytesV (ns : List Int) : List Value := ns.map (.int .u8)
def strOf (ns : List Int) : ByteArray := ns.foldl (fun r n => r.push (UInt8.ofNat n.toNat)) ByteArray.empty

theorem G.bstr {src dst : TypeId} {x : Operand} {a : Option Addr} {n c : Nat} {ns : List Int} {e : TypeId} (hw : wantT ops T ⟨some t, .convert src dst x, ty, ps, af, gd⟩ = some true) (hx : ev T x = some (.slice a n c)) (h1 : P.underlying src = some (.slice e)) (h2 : P.underlying e = some (.int .u8)) (h3 : P.underlying dst = some .string)
    (hs : Has H a (bytesV ns)) (hn : ns.length = n) (next : RG false P C ops K is (upd T t (.string (strOf ns))) H log) : RGo ⟨some t, .convert src dst x, ty, ps, af, gd⟩ false P C ops K i is T H log := by
  refine G.readH0 hs rfl hw (fun H' hH ρ w hρ hh => ?_) next
  have hx' := hρ x (by simp [Op.operands]) _ hx
  simp only [execOp, hx', Sem.run_bind, run_convert_bytes_string w src dst e a n c h1 h2 h3]
  cases a with
  | none =>
    have : bytesV ns = [] := by
      rcases hH with h | ⟨_, _, _, h, _⟩
      · exact h
      · cases h
    have hns : ns = [] := by simpa [bytesV] using this
    subst hns
    simp [Conv.bytesToString, strOf]
  | some a =>
    have hl := hH.loads (P := P) hh
    have hl' : (bytesV ns).length = n := by simp [bytesV, hn]
    rw [hl'] at hl
    rw [run_bytesToString w a n c ns hl]
    simp [strOf]

/-! Strings of bytes are the same if their bytes are. -/
theorem strOf_data : ∀ (ns : List Int) (r : ByteArray), (ns.foldl (fun r n => r.push (UInt8.ofNat n.toNat)) r).data.toList = r.data.toList ++ ns.map fun n => UInt8.ofNat n.toNat
  | [], r => by simp
  | n :: ns, r => by
    rw [List.foldl_cons, strOf_data ns]
    simp [ByteArray.push]

def Byte (n : Int) : Prop := 0 ≤ n ∧ n < 256
theorem byte_of {n m : Int} (hn : Byte n) (hm : Byte m) (h : UInt8.ofNat n.toNat = UInt8.ofNat m.toNat) : n = m := by
  have h1 := congrArg UInt8.toNat h
  simp only [UInt8.toNat_ofNat'] at h1
  obtain ⟨a1, a2⟩ := hn; obtain ⟨b1, b2⟩ := hm
  omega

theorem strOf_inj {ns ms : List Int} (hn : ∀ n ∈ ns, Byte n) (hm : ∀ n ∈ ms, Byte n) (h : strOf ns = strOf ms) : ns = ms := by
  have h1 := congrArg (fun s => s.data.toList) h
  simp only [strOf, strOf_data] at h1
  simp only [show ByteArray.empty.data.toList = [] from rfl, List.nil_append] at h1
  clear h
  induction ns generalizing ms with
  | nil => cases ms with
    | nil => rfl
    | cons m ms => simp at h1
  | cons n ns ih => cases ms with
    | nil => simp at h1
    | cons m ms =>
      simp only [List.map_cons, List.cons.injEq] at h1
      rw [byte_of (hn n (List.mem_cons_self ..)) (hm m (List.mem_cons_self ..)) h1.1, ih (fun x hx => hn x (List.mem_cons_of_mem _ hx)) (fun x hx => hm x (List.mem_cons_of_mem _ hx)) h1.2]

theorem strOf_beq {ns ms : List Int} (hn : ∀ n ∈ ns, Byte n) (hm : ∀ n ∈ ms, Byte n) : (strOf ns == strOf ms) = decide (ns = ms) := by
  rw [Bool.eq_iff_iff, MapKept.bytes_beq, decide_eq_true_iff]
  exact ⟨strOf_inj hn hm, fun h => by rw [h]⟩

/-! ### Maps -/
open MapKept in
theorem G.makeMap {mt : TypeId} (hw : wantT ops T ⟨some t, .makeMap mt none, ty, ps, af, gd⟩ = some true) (hst : StOk ops (i :: is) H log)
    (next : ∀ b, RG dr P C ops K is (upd T t (.map (some b))) ((b, .map [].toArray 0) :: H) log) : RGo ⟨some t, .makeMap mt none, ty, ps, af, gd⟩ dr P C ops K i is T H log := by
  intro ho
  refine RG.spine _ (fun u H' => ∃ b, u = .map (some b) ∧ H' = (b, .map [].toArray 0) :: H) ho hw rfl rfl (fun ρ w hρ hh => ?_) ?_ ?_
  · simp only [execOp, Instr.makeMap, Option.map_none, Sem.run_bind, Sem.run_pure, Result.andThen_ok, run_newObj_alloc, Came]
    exact ⟨_, ⟨_, rfl, rfl⟩, hh.alloc _ _ (MapKept.heap_alloc w _).1⟩
  · rintro u H1 ⟨b, _, rfl⟩ e he _; exact (hst.spec e he).imp (fun h => List.mem_cons_of_mem _ h) id
  · rintro u H1 ⟨b, rfl, rfl⟩; exact next b

def normE : List MapEntry → Option (List MapEntry)
  | [] => some []
  | v :: l => match normE l with
    | some l' => some (v :: l')
    | none => none

theorem normE_eq : ∀ {l l' : List MapEntry}, normE l = some l' → l' = l
  | [], _, h => by simp only [normE, Option.some.injEq] at h; exact h.symm
  | v :: l, l', h => by
    simp only [normE] at h
    cases hl : normE l with
    | none => rw [hl] at h; cases h
    | some l1 =>
      rw [hl] at h
      simp only [Option.some.injEq] at h
      rw [← h, normE_eq hl]

def isKeyB : TypeDesc → Value → Bool
  | .bool, .bool _ => true
  | .int k, .int k' _ => k' == k
  | .string, .string _ => true
  | _, _ => false

theorem isKeyB_spec {d : TypeDesc} {v : Value} (h : isKeyB d v = true) : MapKept.IsKey d v := by
  cases d <;> cases v <;> simp_all [isKeyB, MapKept.IsKey]

def mapT (P : Program) (mt : TypeId) : Option (TypeId × TypeDesc × TypeId) := match P.underlying mt with
  | some (.map kt et) => match P.underlying kt with
    | some d => some (kt, d, et)
    | none => none
  | _ => none

theorem mapT_spec {mt kt et : TypeId} {d : TypeDesc} (h : mapT P mt = some (kt, d, et)) : P.underlying mt = some (.map kt et) ∧ P.underlying kt = some d := by
  unfold mapT at h
  split at h
  · rename_i k e hu
    split at h
    · rename_i d' hd
      simp only [Option.some.injEq, Prod.mk.injEq] at h
      obtain ⟨rfl, rfl, rfl⟩ := h
      exact ⟨hu, hd⟩
    · cases h
  · cases h

theorem setMap {w : World} {r : Nat} {es es' : Array MapEntry} {c c' : Nat} (h : Holds w r (.map es c)) :
    Holds { w with heap := w.heap.setIfInBounds r (.map es' c') } r (.map es' c') ∧ Wrote r w { w with heap := w.heap.setIfInBounds r (.map es' c') } := by
  obtain ⟨h1, h2⟩ := MapKept.heap_set (o' := .map es' c') h
  exact ⟨h1, rfl, rfl, rfl, by simp, fun k hk => h2 k hk⟩

/-- A key that is not there. -/
theorem G.insert {mt kt et : TypeId} {d : TypeDesc} {m k x : Operand} {r ck : Nat} {l l' : List MapEntry} {kv xv : Value} {F : Hp} {o : Op} (hop : o = .insert mt m k x ∨ o = .mapUpdate mt m k x) (hw : wantT ops T ⟨none, o, ty, ps, af, gd⟩ = some true) (hm : ev T m = some (.map (some r))) (hk : ev T k = some kv) (hx : ev T x = some xv)
    (hmt : mapT P mt = some (kt, d, et)) (hkey : isKeyB d kv = true) (hrem : Rem H (r, .map l.toArray ck) F) (hf : Instr.findNow d kv l 0 = some none) (hl : normE (l ++ [(MapEntry.mk kv xv ck)]) = some l') (hst : StOk ops (i :: is) F log)
    (next : RG dr P C ops K is T ((r, .map l'.toArray (ck + 1)) :: F) log) : RGo ⟨none, o, ty, ps, af, gd⟩ dr P C ops K i is T H log := by
  intro ho
  have e := normE_eq hl
  subst e
  obtain ⟨u1, u2⟩ := mapT_spec hmt
  have hsp : spineOp o = true ∧ newOp o = false := by rcases hop with rfl | rfl <;> exact ⟨rfl, rfl⟩
  refine RG.spine _ (fun u H' => H' = (r, .map (l ++ [(MapEntry.mk kv xv ck)]).toArray (ck + 1)) :: F) ho hw hsp.1 hsp.2 (fun ρ w hρ hh => ?_) ?_ ?_
  · have hh' := hh.perm hrem.perm
    have hr := hh'.heap _ (List.mem_cons_self ..)
    have hex : (execOp ρ ⟨none, o, ty, ps, af, gd⟩).run P w = ((Instr.mapUpdate mt (.map (some r)) kv xv).run P w).andThen fun _ w => .ok .skip w := by
      rcases hop with rfl | rfl
      · have e1 := hρ m (by simp [Op.operands]) _ hm
        have e2 := hρ k (by simp [Op.operands]) _ hk
        have e3 := hρ x (by simp [Op.operands]) _ hx
        simp only [execOp, e1, e2, e3, Sem.run_bind, Sem.run_pure]
      · have e1 := hρ m (by simp [Op.operands]) _ hm
        have e2 := hρ k (by simp [Op.operands]) _ hk
        have e3 := hρ x (by simp [Op.operands]) _ hx
        simp only [execOp, e1, e2, e3, Sem.run_bind, Sem.run_pure]
    have hK := isKeyB_spec hkey
    obtain ⟨s1, s2⟩ := setMap (es' := (l ++ [(MapEntry.mk kv xv ck)]).toArray) (c' := ck + 1) hr
    have hrun : (Instr.mapUpdate mt (.map (some r)) kv xv).run P w = .ok () { w with heap := w.heap.setIfInBounds r (.map (l ++ [(MapEntry.mk kv xv ck)]).toArray (ck + 1)) } := by
      have hp : l.toArray.push (MapEntry.mk kv xv ck) = (l ++ [(MapEntry.mk kv xv ck)]).toArray := by simp
      unfold Instr.mapUpdate
      simp only [Sem.run_bind, run_underlying u1, Result.andThen_ok, MapKept.run_getObj_map hr, MapKept.run_checkKey u2 hK, MapKept.run_findKey u2 hf, MapKept.run_setObj_map _ hr, hp]
    rw [hex, hrun]
    exact ⟨_, rfl, hh'.wrote rfl s1 s2⟩
  · rintro u H1 rfl e he _; exact (hst.spec e he).imp (fun h => List.mem_cons_of_mem _ h) id
  · rintro u H1 rfl; exact next

/-- What stands under a key, and whether anything does. -/
def lookL (P : Program) (d : TypeDesc) (et : TypeId) (k : Value) (l : List MapEntry) : Option (Value × Bool) :=
  match Instr.findNow d k l 0 with
  | some (some (_, v)) => some (v, true)
  | some none => match P.info? et with
    | some inf => match inf.zero with
      | some z => some (z, false)
      | none => none
    | none => none
  | none => none

theorem run_lookup {mt kt et : TypeId} {d : TypeDesc} {r ck : Nat} {l : List MapEntry} {kv v : Value} {ok c : Bool} {w : World} (hmt : mapT P mt = some (kt, d, et)) (hkey : isKeyB d kv = true) (h : Holds w r (.map l.toArray ck)) (hl : lookL P d et kv l = some (v, ok)) :
    (Instr.lookup mt (.map (some r)) kv c).run P w = .ok (if c then .tuple #[v, .bool ok] else v) w := by
  obtain ⟨u1, u2⟩ := mapT_spec hmt
  have hK := isKeyB_spec hkey
  unfold lookL at hl
  unfold Instr.lookup
  split at hl
  · rename_i j v' hf
    simp only [Option.some.injEq, Prod.mk.injEq] at hl
    obtain ⟨rfl, rfl⟩ := hl
    simp only [Sem.run_bind, run_underlying u1, Result.andThen_ok, MapKept.run_getObj_map h, Sem.run_pure, MapKept.run_checkKey u2 hK, MapKept.run_findKey u2 hf]
  · rename_i hf
    cases hi : P.info? et with
    | none => rw [hi] at hl; cases hl
    | some inf =>
      rw [hi] at hl
      simp only at hl
      cases hz : inf.zero with
      | none => rw [hz] at hl; cases hl
      | some z =>
        rw [hz] at hl
        simp only [Option.some.injEq, Prod.mk.injEq] at hl
        obtain ⟨rfl, rfl⟩ := hl
        have hzv : (zeroValue et).run P w = .ok z w := by simp [zeroValue, typeInfo, program, Sem.run, hi, hz]
        simp only [Sem.run_bind, run_underlying u1, Result.andThen_ok, MapKept.run_getObj_map h, Sem.run_pure, MapKept.run_checkKey u2 hK, MapKept.run_findKey u2 hf, hzv]
  · cases hl

theorem G.lookup2 {mt kt et : TypeId} {d : TypeDesc} {m k : Operand} {r ck : Nat} {l : List MapEntry} {kv v : Value} {ok : Bool} (hw : wantT ops T ⟨some t, .lookup mt m k true, ty, ps, af, gd⟩ = some true) (hm : ev T m = some (.map (some r))) (hk : ev T k = some kv)
    (hmt : mapT P mt = some (kt, d, et)) (hkey : isKeyB d kv = true) (hmem : (r, .map l.toArray ck) ∈ H) (hl : lookL P d et kv l = some (v, ok))
    (next : RG false P C ops K is (upd T t (.tuple #[v, .bool ok])) H log) : RGo ⟨some t, .lookup mt m k true, ty, ps, af, gd⟩ false P C ops K i is T H log := by
  intro ho
  refine RG.read _ _ (r, .map l.toArray ck) ho hw rfl (fun ρ w hρ hh => ?_) hmem rfl next
  have e1 := hρ m (by simp [Op.operands]) _ hm
  have e2 := hρ k (by simp [Op.operands]) _ hk
  have h1 := hh _ (List.mem_singleton.2 rfl)
  simp only [execOp, e1, e2, Sem.run_bind, run_lookup hmt hkey h1 hl, Result.andThen_ok, Sem.run_pure, if_true]

theorem G.lookup1 {mt kt et : TypeId} {d : TypeDesc} {m k : Operand} {r ck : Nat} {l : List MapEntry} {kv v : Value} {ok : Bool} (hw : wantT ops T ⟨some t, .lookup mt m k false, ty, ps, af, gd⟩ = some true) (hm : ev T m = some (.map (some r))) (hk : ev T k = some kv)
    (hmt : mapT P mt = some (kt, d, et)) (hkey : isKeyB d kv = true) (hmem : (r, .map l.toArray ck) ∈ H) (hl : lookL P d et kv l = some (v, ok))
    (next : RG false P C ops K is (upd T t v) H log) : RGo ⟨some t, .lookup mt m k false, ty, ps, af, gd⟩ false P C ops K i is T H log := by
  intro ho
  refine RG.read _ _ (r, .map l.toArray ck) ho hw rfl (fun ρ w hρ hh => ?_) hmem rfl next
  have e1 := hρ m (by simp [Op.operands]) _ hm
  have e2 := hρ k (by simp [Op.operands]) _ hk
  have h1 := hh _ (List.mem_singleton.2 rfl)
  simp only [execOp, e1, e2, Sem.run_bind, run_lookup hmt hkey h1 hl, Result.andThen_ok, Sem.run_pure, Bool.false_eq_true, if_false]

end Bw
