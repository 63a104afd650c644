/- The types of the program: as data, and as they lie in memory. No conditions. -/
import Derived.Test.YthlbohgfikckfaaLibF
namespace Go.Sw
open Go Go.RowKit

@[ext] structure TAddr where
  host : Str
  path : Str
deriving DecidableEq

structure TAddr.Ok (w : World) (x : TAddr) : Prop where
  host : Ph.ok w x.host
  path : Ph.ok w x.path

instance : Ph TAddr where
  sz := 2
  pos := by decide
  enc x := [S x.host, S x.path]
  len _ := rfl
  one _ := rfl
  ok := TAddr.Ok
  ext := fun hb h => ⟨Ph.ext hb h.host, Ph.ext hb h.path⟩

@[ext] structure TAttr where
  name : Str
  value : Str
deriving DecidableEq

structure TAttr.Ok (w : World) (x : TAttr) : Prop where
  name : Ph.ok w x.name
  value : Ph.ok w x.value

instance : Ph TAttr where
  sz := 2
  pos := by decide
  enc x := [S x.name, S x.value]
  len _ := rfl
  one _ := rfl
  ok := TAttr.Ok
  ext := fun hb h => ⟨Ph.ext hb h.name, Ph.ext hb h.value⟩

@[ext] structure TToken where
  kind : Int
  name : Str
  attrs : (List TAttr)
  text : Str
deriving DecidableEq

structure PToken where
  kind : Int
  name : Str
  attrs : (Sl TAttr)
  text : Str

@[reducible] def PToken.lg (x : PToken) : TToken := { kind := x.kind, name := x.name, attrs := x.attrs.l, text := x.text }

structure PToken.Ok (w : World) (x : PToken) : Prop where
  kind : Ph.ok w x.kind
  name : Ph.ok w x.name
  attrs : Ph.ok w x.attrs
  text : Ph.ok w x.text

instance : Ph PToken where
  sz := 4
  pos := by decide
  enc x := [I x.kind, S x.name, Sl.v x.attrs, S x.text]
  len _ := rfl
  one _ := rfl
  ok := PToken.Ok
  ext := fun hb h => ⟨Ph.ext hb h.kind, Ph.ext hb h.name, Ph.ext hb h.attrs, Ph.ext hb h.text⟩

@[ext] structure TTokenizer where
  rest : Str
deriving DecidableEq

structure TTokenizer.Ok (w : World) (x : TTokenizer) : Prop where
  rest : Ph.ok w x.rest

instance : Ph TTokenizer where
  sz := 1
  pos := by decide
  enc x := [S x.rest]
  len _ := rfl
  one _ := rfl
  ok := TTokenizer.Ok
  ext := fun hb h => ⟨Ph.ext hb h.rest⟩

@[ext] structure TNode where
  name : Str
  text : Str
  parent : Int
  attrs : (List TAttr)
deriving DecidableEq

structure PNode where
  name : Str
  text : Str
  parent : Int
  attrs : (Sl TAttr)

@[reducible] def PNode.lg (x : PNode) : TNode := { name := x.name, text := x.text, parent := x.parent, attrs := x.attrs.l }

structure PNode.Ok (w : World) (x : PNode) : Prop where
  name : Ph.ok w x.name
  text : Ph.ok w x.text
  parent : Ph.ok w x.parent
  attrs : Ph.ok w x.attrs

instance : Ph PNode where
  sz := 4
  pos := by decide
  enc x := [S x.name, S x.text, I x.parent, Sl.v x.attrs]
  len _ := rfl
  one _ := rfl
  ok := PNode.Ok
  ext := fun hb h => ⟨Ph.ext hb h.name, Ph.ext hb h.text, Ph.ext hb h.parent, Ph.ext hb h.attrs⟩

@[ext] structure TBuilder where
  nodes : (List TNode)
  opn : (List Int)
deriving DecidableEq

structure PBuilder where
  nodes : (Sl PNode)
  opn : (Sl Int)

@[reducible] def PBuilder.lg (x : PBuilder) : TBuilder := { nodes := (x.nodes.l.map PNode.lg), opn := x.opn.l }

structure PBuilder.Ok (w : World) (x : PBuilder) : Prop where
  nodes : Ph.ok w x.nodes
  opn : Ph.ok w x.opn

instance : Ph PBuilder where
  sz := 2
  pos := by decide
  enc x := [Sl.v x.nodes, Sl.v x.opn]
  len _ := rfl
  one _ := rfl
  ok := PBuilder.Ok
  ext := fun hb h => ⟨Ph.ext hb h.nodes, Ph.ext hb h.opn⟩

@[ext] structure TRule where
  name : Str
  color : Int
deriving DecidableEq

structure TRule.Ok (w : World) (x : TRule) : Prop where
  name : Ph.ok w x.name
  color : Ph.ok w x.color

instance : Ph TRule where
  sz := 2
  pos := by decide
  enc x := [S x.name, I x.color]
  len _ := rfl
  one _ := rfl
  ok := TRule.Ok
  ext := fun hb h => ⟨Ph.ext hb h.name, Ph.ext hb h.color⟩

@[ext] structure TSheet where
  rules : (List TRule)
deriving DecidableEq

structure PSheet where
  rules : (Sl TRule)

@[reducible] def PSheet.lg (x : PSheet) : TSheet := { rules := x.rules.l }

structure PSheet.Ok (w : World) (x : PSheet) : Prop where
  rules : Ph.ok w x.rules

instance : Ph PSheet where
  sz := 1
  pos := by decide
  enc x := [Sl.v x.rules]
  len _ := rfl
  one _ := rfl
  ok := PSheet.Ok
  ext := fun hb h => ⟨Ph.ext hb h.rules⟩

@[ext] structure TLine where
  op : Int
  text : Str
deriving DecidableEq

structure TLine.Ok (w : World) (x : TLine) : Prop where
  op : Ph.ok w x.op
  text : Ph.ok w x.text

instance : Ph TLine where
  sz := 2
  pos := by decide
  enc x := [I x.op, S x.text]
  len _ := rfl
  one _ := rfl
  ok := TLine.Ok
  ext := fun hb h => ⟨Ph.ext hb h.op, Ph.ext hb h.text⟩

@[ext] structure TPolicy where
  set : Bool
  scripts : (List Str)
  styles : (List Str)
  images : (List Str)
  nonce : Str
deriving DecidableEq

structure PPolicy where
  set : Bool
  scripts : (Sl Str)
  styles : (Sl Str)
  images : (Sl Str)
  nonce : Str

@[reducible] def PPolicy.lg (x : PPolicy) : TPolicy := { set := x.set, scripts := x.scripts.l, styles := x.styles.l, images := x.images.l, nonce := x.nonce }

structure PPolicy.Ok (w : World) (x : PPolicy) : Prop where
  set : Ph.ok w x.set
  scripts : Ph.ok w x.scripts
  styles : Ph.ok w x.styles
  images : Ph.ok w x.images
  nonce : Ph.ok w x.nonce

instance : Ph PPolicy where
  sz := 5
  pos := by decide
  enc x := [Bo x.set, Sl.v x.scripts, Sl.v x.styles, Sl.v x.images, S x.nonce]
  len _ := rfl
  one _ := rfl
  ok := PPolicy.Ok
  ext := fun hb h => ⟨Ph.ext hb h.set, Ph.ext hb h.scripts, Ph.ext hb h.styles, Ph.ext hb h.images, Ph.ext hb h.nonce⟩

@[ext] structure TResponse where
  status : Int
  kind : Int
  body : Str
  age : Int
  shares : Bool
  policy : Str
deriving DecidableEq

structure TResponse.Ok (w : World) (x : TResponse) : Prop where
  status : Ph.ok w x.status
  kind : Ph.ok w x.kind
  body : Ph.ok w x.body
  age : Ph.ok w x.age
  shares : Ph.ok w x.shares
  policy : Ph.ok w x.policy

instance : Ph TResponse where
  sz := 6
  pos := by decide
  enc x := [I x.status, I x.kind, S x.body, I x.age, Bo x.shares, S x.policy]
  len _ := rfl
  one _ := rfl
  ok := TResponse.Ok
  ext := fun hb h => ⟨Ph.ext hb h.status, Ph.ext hb h.kind, Ph.ext hb h.body, Ph.ext hb h.age, Ph.ext hb h.shares, Ph.ext hb h.policy⟩

@[ext] structure TRequest where
  kind : Int
  to : TAddr
  frm : Str
  digest : Str
deriving DecidableEq

structure TRequest.Ok (w : World) (x : TRequest) : Prop where
  kind : Ph.ok w x.kind
  to : Ph.ok w x.to
  frm : Ph.ok w x.frm
  digest : Ph.ok w x.digest

instance : Ph TRequest where
  sz := 5
  pos := by decide
  enc x := [I x.kind, S x.to.host, S x.to.path, S x.frm, S x.digest]
  len _ := rfl
  one _ := rfl
  ok := TRequest.Ok
  ext := fun hb h => ⟨Ph.ext hb h.kind, Ph.ext hb h.to, Ph.ext hb h.frm, Ph.ext hb h.digest⟩

@[ext] structure TFile where
  path : Str
  response : TResponse
deriving DecidableEq

structure TFile.Ok (w : World) (x : TFile) : Prop where
  path : Ph.ok w x.path
  response : Ph.ok w x.response

instance : Ph TFile where
  sz := 7
  pos := by decide
  enc x := [S x.path, I x.response.status, I x.response.kind, S x.response.body, I x.response.age, Bo x.response.shares, S x.response.policy]
  len _ := rfl
  one _ := rfl
  ok := TFile.Ok
  ext := fun hb h => ⟨Ph.ext hb h.path, Ph.ext hb h.response⟩

@[ext] structure TServer where
  host : Str
  files : (List TFile)
deriving DecidableEq

structure PServer where
  host : Str
  files : (Sl TFile)

@[reducible] def PServer.lg (x : PServer) : TServer := { host := x.host, files := x.files.l }

structure PServer.Ok (w : World) (x : PServer) : Prop where
  host : Ph.ok w x.host
  files : Ph.ok w x.files

instance : Ph PServer where
  sz := 2
  pos := by decide
  enc x := [S x.host, Sl.v x.files]
  len _ := rfl
  one _ := rfl
  ok := PServer.Ok
  ext := fun hb h => ⟨Ph.ext hb h.host, Ph.ext hb h.files⟩

@[ext] structure TEntry where
  top : Str
  to : TAddr
  response : TResponse
  until_ : Int
deriving DecidableEq

structure TEntry.Ok (w : World) (x : TEntry) : Prop where
  top : Ph.ok w x.top
  to : Ph.ok w x.to
  response : Ph.ok w x.response
  until_ : Ph.ok w x.until_

instance : Ph TEntry where
  sz := 10
  pos := by decide
  enc x := [S x.top, S x.to.host, S x.to.path, I x.response.status, I x.response.kind, S x.response.body, I x.response.age, Bo x.response.shares, S x.response.policy, I x.until_]
  len _ := rfl
  one _ := rfl
  ok := TEntry.Ok
  ext := fun hb h => ⟨Ph.ext hb h.top, Ph.ext hb h.to, Ph.ext hb h.response, Ph.ext hb h.until_⟩

@[ext] structure TCache where
  entries : (List TEntry)
deriving DecidableEq

structure PCache where
  entries : (Sl TEntry)

@[reducible] def PCache.lg (x : PCache) : TCache := { entries := x.entries.l }

structure PCache.Ok (w : World) (x : PCache) : Prop where
  entries : Ph.ok w x.entries

instance : Ph PCache where
  sz := 1
  pos := by decide
  enc x := [Sl.v x.entries]
  len _ := rfl
  one _ := rfl
  ok := PCache.Ok
  ext := fun hb h => ⟨Ph.ext hb h.entries⟩

@[ext] structure TSent where
  top : Str
  to : TAddr
  guess : Bool
deriving DecidableEq

structure TSent.Ok (w : World) (x : TSent) : Prop where
  top : Ph.ok w x.top
  to : Ph.ok w x.to
  guess : Ph.ok w x.guess

instance : Ph TSent where
  sz := 4
  pos := by decide
  enc x := [S x.top, S x.to.host, S x.to.path, Bo x.guess]
  len _ := rfl
  one _ := rfl
  ok := TSent.Ok
  ext := fun hb h => ⟨Ph.ext hb h.top, Ph.ext hb h.to, Ph.ext hb h.guess⟩

@[ext] structure TNet where
  servers : (List TServer)
  cache : TCache
  log : (List TSent)
  now : Int
deriving DecidableEq

structure PNet where
  servers : (Sl PServer)
  cache : PCache
  log : (Sl TSent)
  now : Int

@[reducible] def PNet.lg (x : PNet) : TNet := { servers := (x.servers.l.map PServer.lg), cache := x.cache.lg, log := x.log.l, now := x.now }

structure PNet.Ok (w : World) (x : PNet) : Prop where
  servers : Ph.ok w x.servers
  cache : Ph.ok w x.cache
  log : Ph.ok w x.log
  now : Ph.ok w x.now

instance : Ph PNet where
  sz := 4
  pos := by decide
  enc x := [Sl.v x.servers, Sl.v x.cache.entries, Sl.v x.log, I x.now]
  len _ := rfl
  one _ := rfl
  ok := PNet.Ok
  ext := fun hb h => ⟨Ph.ext hb h.servers, Ph.ext hb h.cache, Ph.ext hb h.log, Ph.ext hb h.now⟩

@[ext] structure TSlot where
  mode : Int
  to : TAddr
  digest : Str
  node : Int
  done : Bool
  code : Int
  body : Str
deriving DecidableEq

structure TSlot.Ok (w : World) (x : TSlot) : Prop where
  mode : Ph.ok w x.mode
  to : Ph.ok w x.to
  digest : Ph.ok w x.digest
  node : Ph.ok w x.node
  done : Ph.ok w x.done
  code : Ph.ok w x.code
  body : Ph.ok w x.body

instance : Ph TSlot where
  sz := 8
  pos := by decide
  enc x := [I x.mode, S x.to.host, S x.to.path, S x.digest, I x.node, Bo x.done, I x.code, S x.body]
  len _ := rfl
  one _ := rfl
  ok := TSlot.Ok
  ext := fun hb h => ⟨Ph.ext hb h.mode, Ph.ext hb h.to, Ph.ext hb h.digest, Ph.ext hb h.node, Ph.ext hb h.done, Ph.ext hb h.code, Ph.ext hb h.body⟩

@[ext] structure TModule where
  to : TAddr
  done : Bool
  code : Int
  body : Str
deriving DecidableEq

structure TModule.Ok (w : World) (x : TModule) : Prop where
  to : Ph.ok w x.to
  done : Ph.ok w x.done
  code : Ph.ok w x.code
  body : Ph.ok w x.body

instance : Ph TModule where
  sz := 5
  pos := by decide
  enc x := [S x.to.host, S x.to.path, Bo x.done, I x.code, S x.body]
  len _ := rfl
  one _ := rfl
  ok := TModule.Ok
  ext := fun hb h => ⟨Ph.ext hb h.to, Ph.ext hb h.done, Ph.ext hb h.code, Ph.ext hb h.body⟩

@[ext] structure TPage where
  addr : TAddr
  policy : TPolicy
  tok : TTokenizer
  queue : (List TToken)
  ended : Bool
  builder : TBuilder
  slots : (List TSlot)
  mods : (List TModule)
  entries : (List TAddr)
  block : Int
  inln : Int
  deferred : Int
  entered : Int
  ran : (List TAddr)
  log : (List Str)
  loaded : Bool
deriving DecidableEq

structure PPage where
  addr : TAddr
  policy : PPolicy
  tok : TTokenizer
  queue : (Sl PToken)
  ended : Bool
  builder : PBuilder
  slots : (Sl TSlot)
  mods : (Sl TModule)
  entries : (Sl TAddr)
  block : Int
  inln : Int
  deferred : Int
  entered : Int
  ran : (Sl TAddr)
  log : (Sl Str)
  loaded : Bool

@[reducible] def PPage.lg (x : PPage) : TPage := { addr := x.addr, policy := x.policy.lg, tok := x.tok, queue := (x.queue.l.map PToken.lg), ended := x.ended, builder := x.builder.lg, slots := x.slots.l, mods := x.mods.l, entries := x.entries.l, block := x.block, inln := x.inln, deferred := x.deferred, entered := x.entered, ran := x.ran.l, log := x.log.l, loaded := x.loaded }

structure PPage.Ok (w : World) (x : PPage) : Prop where
  addr : Ph.ok w x.addr
  policy : Ph.ok w x.policy
  tok : Ph.ok w x.tok
  queue : Ph.ok w x.queue
  ended : Ph.ok w x.ended
  builder : Ph.ok w x.builder
  slots : Ph.ok w x.slots
  mods : Ph.ok w x.mods
  entries : Ph.ok w x.entries
  block : Ph.ok w x.block
  inln : Ph.ok w x.inln
  deferred : Ph.ok w x.deferred
  entered : Ph.ok w x.entered
  ran : Ph.ok w x.ran
  log : Ph.ok w x.log
  loaded : Ph.ok w x.loaded

instance : Ph PPage where
  sz := 22
  pos := by decide
  enc x := [S x.addr.host, S x.addr.path, Bo x.policy.set, Sl.v x.policy.scripts, Sl.v x.policy.styles, Sl.v x.policy.images, S x.policy.nonce, S x.tok.rest, Sl.v x.queue, Bo x.ended, Sl.v x.builder.nodes, Sl.v x.builder.opn, Sl.v x.slots, Sl.v x.mods, Sl.v x.entries, I x.block, I x.inln, I x.deferred, I x.entered, Sl.v x.ran, Sl.v x.log, Bo x.loaded]
  len _ := rfl
  one _ := rfl
  ok := PPage.Ok
  ext := fun hb h => ⟨Ph.ext hb h.addr, Ph.ext hb h.policy, Ph.ext hb h.tok, Ph.ext hb h.queue, Ph.ext hb h.ended, Ph.ext hb h.builder, Ph.ext hb h.slots, Ph.ext hb h.mods, Ph.ext hb h.entries, Ph.ext hb h.block, Ph.ext hb h.inln, Ph.ext hb h.deferred, Ph.ext hb h.entered, Ph.ext hb h.ran, Ph.ext hb h.log, Ph.ext hb h.loaded⟩

end Go.Sw
