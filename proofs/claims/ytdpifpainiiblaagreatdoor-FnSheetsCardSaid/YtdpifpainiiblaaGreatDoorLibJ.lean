/- Marks: what they make of data, and what they count. No program in sight; no conditions. -/
import Derived.Test.YtdpifpainiiblaaGreatDoorLibP
set_option linter.all false
namespace Go.Sw
open Go Go.RowKit
variable {M : Nat → Prop}

def mkStr (k : Int) (_ : Str) : Str := mkT k
def mkInt (k : Int) (_ : Int) : Int := k
def mkAttr (k : Int) (x : TAttr) : TAttr := ⟨mkT k, mkT (k + 1)⟩
def mkRule (k : Int) (x : TRule) : TRule := ⟨mkT k, (k + 1)⟩
def mkLine (k : Int) (x : TLine) : TLine := ⟨k, mkT (k + 1)⟩
def mkAddr (k : Int) (x : TAddr) : TAddr := ⟨mkT k, mkT (k + 1)⟩
def mkFile (k : Int) (x : TFile) : TFile := ⟨mkT k, ⟨(k + 1), ((k + 1) + 1), mkT (((k + 1) + 1) + 1), ((((k + 1) + 1) + 1) + 1), decide (Int.tmod (((((k + 1) + 1) + 1) + 1) + 1) 3 = 0), mkT ((((((k + 1) + 1) + 1) + 1) + 1) + 1)⟩⟩
def mkEntry (k : Int) (x : TEntry) : TEntry := ⟨mkT k, ⟨mkT (k + 1), mkT ((k + 1) + 1)⟩, ⟨(((k + 1) + 1) + 1), ((((k + 1) + 1) + 1) + 1), mkT (((((k + 1) + 1) + 1) + 1) + 1), ((((((k + 1) + 1) + 1) + 1) + 1) + 1), decide (Int.tmod (((((((k + 1) + 1) + 1) + 1) + 1) + 1) + 1) 3 = 0), mkT ((((((((k + 1) + 1) + 1) + 1) + 1) + 1) + 1) + 1)⟩, (((((((((k + 1) + 1) + 1) + 1) + 1) + 1) + 1) + 1) + 1)⟩
def mkSent (k : Int) (x : TSent) : TSent := ⟨mkT k, ⟨mkT (k + 1), mkT ((k + 1) + 1)⟩, decide (Int.tmod (((k + 1) + 1) + 1) 3 = 0)⟩
def costServer (x : TServer) : Nat := 1 + costL (fun _ => 7) x.files
def mkServer (k : Int) (x : TServer) : TServer := ⟨mkT k, mkL mkFile (fun _ => 7) (k + 1) x.files⟩
theorem PServer.part {w : World} {d u : PServer} (a_host : Ph.ok w u.host) (e_files : u.files = d.files) : ∀ (w' : World) (B : List Nat), (∀ b ∈ B, w'.heap[b]? = w.heap[b]?) → Own.own w d B → Own.own w' u B := by
  rintro w' B hB ⟨_, F0, o_files, rfl⟩
  rw [← e_files] at o_files
  exact ⟨⟨Flat.any a_host, trivial⟩, _, Own.loc hB o_files, rfl⟩
def costNode (x : TNode) : Nat := 3 + costL (fun _ => 2) x.attrs
def mkNode (k : Int) (x : TNode) : TNode := ⟨mkT k, mkT (k + 1), ((k + 1) + 1), mkL mkAttr (fun _ => 2) (((k + 1) + 1) + 1) x.attrs⟩
theorem PNode.part {w : World} {d u : PNode} (a_name : Ph.ok w u.name) (a_text : Ph.ok w u.text) (a_parent : Ph.ok w u.parent) (e_attrs : u.attrs = d.attrs) : ∀ (w' : World) (B : List Nat), (∀ b ∈ B, w'.heap[b]? = w.heap[b]?) → Own.own w d B → Own.own w' u B := by
  rintro w' B hB ⟨_, F0, o_attrs, rfl⟩
  rw [← e_attrs] at o_attrs
  exact ⟨⟨Flat.any a_name, Flat.any a_text, Flat.any a_parent, trivial⟩, _, Own.loc hB o_attrs, rfl⟩
def costSheet (x : TSheet) : Nat := 0 + costL (fun _ => 2) x.rules
def mkSheet (k : Int) (x : TSheet) : TSheet := ⟨mkL mkRule (fun _ => 2) k x.rules⟩
theorem PSheet.part {w : World} {d u : PSheet}  (e_rules : u.rules = d.rules) : ∀ (w' : World) (B : List Nat), (∀ b ∈ B, w'.heap[b]? = w.heap[b]?) → Own.own w d B → Own.own w' u B := by
  rintro w' B hB ⟨_, F0, o_rules, rfl⟩
  rw [← e_rules] at o_rules
  exact ⟨trivial, _, Own.loc hB o_rules, rfl⟩
def costToken (x : TToken) : Nat := 3 + costL (fun _ => 2) x.attrs
def mkToken (k : Int) (x : TToken) : TToken := ⟨k, mkT (k + 1), mkL mkAttr (fun _ => 2) ((k + 1) + 1) x.attrs, mkT (((k + 1) + 1) + ((costL (fun _ => 2) x.attrs : Nat) : Int))⟩
theorem PToken.part {w : World} {d u : PToken} (a_kind : Ph.ok w u.kind) (a_name : Ph.ok w u.name) (a_text : Ph.ok w u.text) (e_attrs : u.attrs = d.attrs) : ∀ (w' : World) (B : List Nat), (∀ b ∈ B, w'.heap[b]? = w.heap[b]?) → Own.own w d B → Own.own w' u B := by
  rintro w' B hB ⟨_, F0, o_attrs, rfl⟩
  rw [← e_attrs] at o_attrs
  exact ⟨⟨Flat.any a_kind, Flat.any a_name, Flat.any a_text, trivial⟩, _, Own.loc hB o_attrs, rfl⟩
def mkSlot (k : Int) (x : TSlot) : TSlot := ⟨k, ⟨mkT (k + 1), mkT ((k + 1) + 1)⟩, mkT (((k + 1) + 1) + 1), ((((k + 1) + 1) + 1) + 1), decide (Int.tmod (((((k + 1) + 1) + 1) + 1) + 1) 3 = 0), ((((((k + 1) + 1) + 1) + 1) + 1) + 1), mkT (((((((k + 1) + 1) + 1) + 1) + 1) + 1) + 1)⟩
def mkModule (k : Int) (x : TModule) : TModule := ⟨⟨mkT k, mkT (k + 1)⟩, decide (Int.tmod ((k + 1) + 1) 3 = 0), (((k + 1) + 1) + 1), mkT ((((k + 1) + 1) + 1) + 1)⟩
def costoPolicy (x : TPolicy) : Nat := costL (fun _ => 1) x.scripts + costL (fun _ => 1) x.styles + costL (fun _ => 1) x.images
def mkoPolicy (k : Int) (x : TPolicy) : TPolicy := ⟨x.set, mkL mkStr (fun _ => 1) k x.scripts, mkL mkStr (fun _ => 1) (k + ((costL (fun _ => 1) x.scripts : Nat) : Int)) x.styles, mkL mkStr (fun _ => 1) ((k + ((costL (fun _ => 1) x.scripts : Nat) : Int)) + ((costL (fun _ => 1) x.styles : Nat) : Int)) x.images, x.nonce⟩
def costoCache (x : TCache) : Nat := costL (fun _ => 10) x.entries
def mkoCache (k : Int) (x : TCache) : TCache := ⟨mkL mkEntry (fun _ => 10) k x.entries⟩
def costoNet (x : TNet) : Nat := costL costServer x.servers + costoCache x.cache + costL (fun _ => 4) x.log
def mkoNet (k : Int) (x : TNet) : TNet := ⟨mkL mkServer costServer k x.servers, mkoCache (k + ((costL costServer x.servers : Nat) : Int)) x.cache, mkL mkSent (fun _ => 4) ((k + ((costL costServer x.servers : Nat) : Int)) + ((costoCache x.cache : Nat) : Int)) x.log, x.now⟩
def costoSheet (x : TSheet) : Nat := costL (fun _ => 2) x.rules
def mkoSheet (k : Int) (x : TSheet) : TSheet := ⟨mkL mkRule (fun _ => 2) k x.rules⟩
def costoBuilder (x : TBuilder) : Nat := costL costNode x.nodes + costL (fun _ => 1) x.opn
def mkoBuilder (k : Int) (x : TBuilder) : TBuilder := ⟨mkL mkNode costNode k x.nodes, mkL mkInt (fun _ => 1) (k + ((costL costNode x.nodes : Nat) : Int)) x.opn⟩
def costoToken (x : TToken) : Nat := costL (fun _ => 2) x.attrs
def mkoToken (k : Int) (x : TToken) : TToken := ⟨x.kind, x.name, mkL mkAttr (fun _ => 2) k x.attrs, x.text⟩

end Go.Sw
